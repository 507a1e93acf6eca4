/- THE ABSTRACT MACHINE, TYPED. -/
import Derived.Test.YtacapiamkgkkjaaGreatDoorAmFin
set_option linter.all false
namespace Go.AM
open Go.RowKit
structure Gk where
 T:Type
 enc:T->List AV
structure vV where
 T:Type
 enc:T->AV
def H8 {q:Type 1}:List (Nat×q)->Nat->Option q
 |[],_=>none
 |(j,v)::l,i=>cond (Nat.beq j i) (some v) (H8 l i)
structure CodO where
 T:Type
 enc:T->AV×List (Nat×Ob)
structure mj where
 elem:TypeId->Option Gk
 val:TypeId->Option vV
 res:Nat->Option vV
 ptr:Option Gk:=none
 out:Nat->Option CodO:=λ_=>none
def fu (K V:vV) (l:List (K.T×V.T)):List AV×List AV:=(l.map λp=>K.enc p.1,l.map λp=>V.enc p.2)
section
variable {R:Type}
@[irreducible] def check (p:Prop) [Decidable p] (x:Option R):Option R:=if p then x else none
@[irreducible] def bp {α:Type} (xs:List α) (i:Int) (k:α->Option R):Option R:=
 if 0<=i then match xs[i.toNat]? with
  |some x=>k x
  |none=>none
 else none
@[irreducible] def ef {α:Type} (xs:List α) (i:Nat) (k:α->Option R):Option R:=
 match xs[i]? with
 |some x=>k x
 |none=>none
@[irreducible] def yE (c:Option (AV×List (Nat×Ob))) (k:AV->Option R):Option R:=
 match c with
 |some (r,[])=>k r
 |_=>none
@[irreducible] def HR (c:Option (AV×List (Nat×Ob))) (nm e sz:Nat) (k:AV->List (List AV)->Option R):Option R:=
 match c with
 |some (r,[(l, .row w q xs)])=>bif Nat.beq nm l&&Nat.beq e w&&Nat.beq sz q then k r xs else none
 |_=>none
@[irreducible] def NV (x:Option (Option AV)) (k:AV->Option R) (z:Option R):Option R:=
 match x with
 |some (some v)=>k v
 |some none=>z
 |none=>none
@[irreducible] def W8 (x:Option (List AV×List AV)) (k:List AV×List AV->Option R):Option R:=
 match x with
 |some p=>k p
 |none=>none
@[irreducible] noncomputable def sj {α T:Type} (enc:T->α) (c:α) (k:T->Option R):Option R:=
 open Classical in if l : ∃ d, enc d = c then k l.choose else none
@[irreducible] noncomputable def MX {T:Type} (enc:T->AV×List (Nat×Ob)) (c:Option (AV×List (Nat×Ob))) (k:T->Option R):Option R:=
 match c with
 |some l=>sj enc l k
 |none=>none
noncomputable def outC (C:mj) (key:Nat) (c:Option (AV×List (Nat×Ob))) (k:AV×List (Nat×Ob)->Option R):Option R:=
 match C.out key with
 |some E=>MX E.enc c λd=>k (E.enc d)
 |none=>none
@[irreducible] def yF (c:Option (AV×List (Nat×Ob))) (k:AV->List (Nat×Ob)->Option R):Option R:=
 match c with
 |some (r,l)=>k r l
 |none=>none
@[irreducible] def mZ (nm:Nat) (l:List (Nat×Ob)) (k:Ob->List (Nat×Ob)->Option R):Option R:=
 match l with
 |(q,o)::l=>bif Nat.beq nm q then k o l else none
 |[]=>none
@[irreducible] def Qa (l:List (Nat×Ob)) (k:Option R):Option R:=
 match l with
 |[]=>k
 |_=>none
@[irreducible] noncomputable def wW (o o':Ob) (k:Option R):Option R:=open Classical in if o=o' then k else none
@[irreducible] def C8 (e sz:Nat) (o:Ob) (k:List (List AV)->Option R):Option R:=
 match o with
 | .row q l xs=>bif Nat.beq e q&&Nat.beq sz l then k xs else none
 |_=>none
@[irreducible] def Sf (z q:Nat) (o:Ob) (k:List AV×List AV->Option R):Option R:=
 match o with
 | .mp k' l w B=>bif Nat.beq z k'&&Nat.beq q l then k (w,B) else none
 |_=>none
@[irreducible] def asLp (o:Ob) (k:List AV->Option R):Option R:=
 match o with
 | .lp xs=>k xs
 |_=>none
@[irreducible] def ptrK (a:AV) (k:List AV->Option R):Option R:=
 match a with
 | .ref l=>k l
 |_=>none
@[irreducible] def hasK (x:Option (Option Nat)) (k:Bool->Option R):Option R:=
 match x with
 |some r=>k r.isSome
 |none=>none
@[irreducible] def Vw (x:Option (List UInt8)) (k:List UInt8->Option R):Option R:=
 match x with
 |some b=>k b
 |none=>none
def aeB (key:AV) (q:List AV) (l:List (Option (List (List AV)))):Option (List (List AV)×List (Option (List (List AV)))):=
 match rz key q with
 |some (some i)=>match l[i]? with
  |some (some xs)=>some (xs,l.set i none)
  |_=>none
 |some none=>some ([],l)
 |none=>none
@[irreducible] def afj (x:Option (List (List AV)×List (Option (List (List AV))))) (k:List (List AV)->List (Option (List (List AV)))->Option R):Option R:=
 match x with
 |some p=>k p.1 p.2
 |none=>none
@[irreducible] def Y2 (x:Option (List AV×List (Option (List (List AV))))) (k:List AV×List (Option (List (List AV)))->Option R):Option R:=
 match x with
 |some p=>k p
 |none=>none
@[irreducible] def Sd (x:Option (List (List (List AV)))) (k:List (List (List AV))->Option R):Option R:=
 match x with
 |some l=>k l
 |none=>none
@[irreducible] def aaM (l:List (Option (List (List AV)))) (i:Nat) (k:List (List AV)->Option R):Option R:=
 match l[i]? with
 |some (some q)=>k q
 |_=>none
def Kz (K:vV) (E:Gk) (l:List (K.T×Option (List E.T))):List AV×List (Option (List (List AV))):=(l.map λp=>K.enc p.1,l.map λp=>p.2.map (List.map E.enc))
def pK {l:Type} (c:Option l) (k:l->Option R):Option R:=
 match c with
 |some r=>k r
 |none=>none
noncomputable def SQ (C:mj) (e:TypeId) (c:List AV) (k:List AV->Option R):Option R:=
 match C.elem e with
 |some d=>sj d.enc c λx=>k (d.enc x)
 |none=>k c
noncomputable def LP (C:mj) (e:TypeId) (c:List (List AV)) (k:List (List AV)->Option R):Option R:=
 match C.elem e with
 |some d=>sj (List.map d.enc) c λx=>k (x.map d.enc)
 |none=>k c
noncomputable def valK (C:mj) (t:TypeId) (c:AV) (k:AV->Option R):Option R:=
 match C.val t with
 |some d=>sj d.enc c λx=>k (d.enc x)
 |none=>k c
noncomputable def aeo (C:mj) (w q:TypeId) (p:List AV×List AV) (k:List AV×List AV->Option R):Option R:=
 match C.val w,C.val q with
 |some K,some V=>sj (fu K V) p λl=>k (fu K V l)
 |_,_=>k p
noncomputable def mrK (C:mj) (q e:TypeId) (p:List AV×List (Option (List (List AV)))) (k:List AV×List (Option (List (List AV)))->Option R):Option R:=
 match C.val q,C.elem e with
 |some K,some E=>sj (Kz K E) p λl=>k (Kz K E l)
 |_,_=>k p
noncomputable def T9 (C:mj) (e:TypeId) (l:List (Option (List (List AV)))) (k:List (Option (List (List AV)))->Option R):Option R:=
 match C.elem e with
 |some d=>sj (List.map (Option.map (List.map d.enc))) l λy=>k (y.map (Option.map (List.map d.enc)))
 |none=>k l
noncomputable def mpK (C:mj) (w e:TypeId) (q:Nat) (p:List AV×List AV) (k:List AV×List AV->Option R):Option R:=
 match C.val w,C.elem e with
 |some K,some E=>sj (fu K ⟨List E.T,λx=> .dK q (x.map E.enc)⟩) p λl=>k (fu K ⟨List E.T,λx=> .dK q (x.map E.enc)⟩ l)
 |_,_=>k p
noncomputable def QJ (C:mj) (o l:Ob) (k:Ob->Option R):Option R:=
 match o with
 | .row e z _=>C8 e z l λxs=>LP C e xs λxs=>k (.row e z xs)
 | .mp w q _ _=>Sf w q l λp=>aeo C w q p λp=>k (.mp w q p.1 p.2)
 | .lp _=>asLp l λxs=>k (.lp xs)
 |o=>wW l o (k o)
@[irreducible] def asBox (t:TypeId) (o:Ob) (k:List AV->Option R):Option R:=
 match o with
 | .box q cells=>match nE cells with
  |some l=>bif Nat.beq t q then k l else none
  |none=>none
 |_=>none
@[irreducible] noncomputable def Ka (t:TypeId) (pre:List SV) (sz:Nat) (o:Ob) (k:List (List AV)->Option R):Option R:=open Classical in
 if h:∃xs,o= .box t (pre++[.pv (.dK sz xs)]) then k h.choose else none
def lastOf (P:Program) (t:TypeId) (cells:List SV):Option (TypeId×Nat×List SV):=
 match nE cells with
 |some _=>none
 |none=>match cells.getLast?,(tV P 8 t).getLast? with
  |some (.pv (.dK l _)),some ty=>match isSlice P ty with
   |some (e,s)=>bif Nat.beq s l then some (e,l,cells.dropLast) else none
   |none=>none
  |_,_=>none
noncomputable def boxK (P:Program) (C:mj) (o l:Ob) (k:Ob->Option R):Option R:=
 match o with
 | .box t cells=>match lastOf P t cells with
  |some (e,q,pre)=>Ka t pre q l λxs=>LP C e xs λxs=>k (.box t (pre++[.pv (.dK q xs)]))
  |none=>match C.elem t,nE cells,cells with
  |some d,some _,_::_::_=>asBox t l λw=>sj d.enc w λx=>k (.box t ((d.enc x).map .pv))
  |_,_,_=>wW l o (k o)
 |o=>QJ C o l k
noncomputable def SJ (P:Program) (C:mj) (keep B:List Nat):List (Nat×Ob)->List (Nat×Ob)->(List (Nat×Ob)->Option R)->Option R
 |[],D,k=>Qa D (k [])
 |(w,o)::l,D,k=>mZ w D λG q=>bif keep.contains w then wW G o (SJ P C keep B l q λz=>k ((w,o)::z)) else bif B.contains w then boxK P C o G λI=>SJ P C keep B l q λz=>k ((w,I)::z) else QJ C o G λI=>SJ P C keep B l q λz=>k ((w,I)::z)
noncomputable def Nb (C:mj) (g:Nat) (c:AV) (k:AV->Option R):Option R:=
 match C.res g with
 |some d=>sj d.enc c λx=>k (d.enc x)
 |none=>k c
noncomputable def ab8 (C:mj) (a:AV) (k:AV->Option R):Option R:=
 ptrK a λl=>match C.ptr with
  |some d=>sj d.enc l λx=>k (.ref (d.enc x))
  |none=>k (.ref l)
def x8 (w:Option SV) (l:Nat) (q:Nat) (k:Nat->Option R):Option R:=
 match w with
 |none=>k l
 |some (.pv (.int _ i))=>check (0<=i/\i<=q) (k i.toNat)
 |some _=>none
noncomputable def EL:List (Nat×Ob)->List (Nat×Ob)->Option R->Option R
 |[],q,k=>Qa q k
 |(z,o)::l,q,k=>mZ z q λB w=>wW B o (EL l w k)
noncomputable def OZ (P:Program) (C:mj) (h:Hint) (F:eX) (q:St) (c:Call) (f:Operand) (k:AV->Option R):Option R:=
 match uU P h q c f with
 |some (g,args)=>
  bif distinct (jK q args)&&Nat.blt (jK q args).length 10000&&args.all (SV.closed (jK q args)) then
   match kg q (jK q args) (iV (mV (jK q args))) (mV (jK q args)) with
   |some cM=>yF (F g (args.map (SV.qV (iV (mV (jK q args))))) cM) λr l=>EL cM l (Nb C g r λr=>bif r.jT then k r else none)
   |none=>none
  else none
 |none=>none
noncomputable def aen (C:mj) (w:St) (v:SV) (k:AV->Option R):Option R:=
 match v with
 | .aq id (.nr i)=>match w.ob id with
  |some (.rn _ _ _ G z _ B)=>aaM B i λD=>LP C G D λD=>k (.dK z D)
  |_=>none
 | .ag [.r id]=>match w.ob id with
  |some (.rn e I q _ z xs B)=>Sd (pG B) λl=>LP C e (w5 q z xs l) λm=>k (.agg [.dK I m])
  |_=>pK (nj w v) k
 |v=>pK (nj w v) k
noncomputable def Fo (P:Program) (C:mj) (q:St):List Operand->List TypeId->(List AV->Option R)->Option R
 |[],_,k=>k []
 |x::xs,w,k=>match bw P (w.headD 0) q x with
  |some v=>aen C q v λa=>Fo P C q xs w.tail λl=>k (a::l)
  |none=>none
noncomputable def wC (P:Program) (C:mj) (h:Hint) (F:eX) (o:Oper) (w:St) (k:SV->Option R):Option R:=
 match o.op with
 | .pick c a b=>match bw P 0 w c with
  |some (.pv (.bool t))=>bif t then pK (bw P o.type w a) k else pK (bw P o.type w b) k
  |_=>none
 | .nilCheck x=>match bw P 0 w x with
  |some (.pv a)=>ab8 C a λa=>k (.pv a)
  |_=>pK (fe P o w) k
 | .indexAddr t x N=>match P.underlying t with
  |some (.array n e)=>pK (D0 P w n e x N) k
  |_=>match isSlice P t,bw P t w x,bw P 0 w N with
  |some (e,s),some (.pv (.dK B xs)),some (.pv (.int _ i))=>bif Nat.beq s B then bp xs i λc=>SQ C e c λc=>k (.cp c) else none
  |some (_,s),some (.row id),some (.pv (.int _ i))=>match w.ob id with
   |some (.row _ B xs)=>bif Nat.beq s B then check (0<=i/\i.toNat<xs.length) (k (.rp id B i.toNat 0)) else none
   |some (.rn _ B _ _ _ xs _)=>bif Nat.beq s B then check (0<=i/\i.toNat<xs.length) (k (.rp id B i.toNat 0)) else none
   |_=>none
  |some (_,s),some (.sub id B G D),some (.pv (.int _ i))=>bif Nat.beq s B then check (0<=i/\i.toNat<D-G) (k (.rp id B (G+i.toNat) 0)) else none
  |some _,some (.aq _ (.bs _)),some (.pv (.int _ _))=>pK (xD P w t x N) k
  |_,_,_=>none
 | .index t x N=>match P.underlying t,bw P t w x,bw P 0 w N with
  |some .string,some (.pv (.str s)),some (.pv (.int _ i))=>bp s i λb=>k (.pv (.int .u8 b.toNat))
  |_,_,_=>none
 | .load t x=>bif o.dst.any h.take.contains then none else match bw P 0 w x with
  |some (.rp id B i O)=>match w.ob id with
   |some (.row e L xs)=>bif Nat.beq B L then ef xs i λc=>SQ C e c λc=>pK (ji P t (c.drop O)) λv=>k (.pv v) else none
   |some (.rn _ L q _ _ xs _)=>bif Nat.beq B L&&Nat.beq O q&&(Es P t==some false) then check (i<xs.length) (k (.aq id (.nr i))) else none
   |_=>none
  |_=>pK (fe P o w) k
 | .binOp op t x y _=>match(bw P t w x).bind jg,(bw P t w y).bind jg with
  |some (.int K a),some (.int kb b)=>match op with
   | .quo=>bif K==kb then check (b≠0) (k (.pv (.int K (K.wrap (a.tdiv b))))) else none
   | .rem=>bif K==kb then check (b≠0) (k (.pv (.int K (a.tmod b)))) else none
   | .shl=>check (0<=b) (k (.pv (.int K (K.wrap (a *2^ min b.toNat K.bits)))))
   | .shr=>check (0<=b) (k (.pv (.int K (a.fdiv (2^ min b.toNat K.bits)))))
   |_=>pK (fe P o w) k
  |some (.str a),some (.str b)=>match op with
   | .add=>check (a.length+b.length<=9223372036854775807) (k (.pv (.str (a++b))))
   |_=>pK (fe P o w) k
  |_,_=>pK (fe P o w) k
 | .slice t x G D none=>match P.underlying t,bw P t w x,oz P w G,oz P w D with
  |some .string,some (.pv (.str s)),some G,some D=>x8 D s.length s.length λh=>x8 G 0 h λl=>k (.pv (.str ((s.take h).drop l)))
  |some (.slice _),some (.pv (.dK B xs)),some G,some D=>match isSlice P t with
   |some (_,s)=>bif Nat.beq s B then x8 D xs.length xs.length λh=>x8 G 0 h λl=>k (.pv (.dK B ((xs.take h).drop l))) else none
   |none=>none
  |some (.slice _),some (.row id),some G,some D=>match isSlice P t,w.ob id with
   |some (_,s),some (.row _ B xs)=>bif Nat.beq s B then x8 D xs.length xs.length λh=>x8 G 0 h λl=>k (.sub id B l h) else none
   |_,_=>none
  |some (.slice _),some (.sub id B a b),some G,some D=>match isSlice P t with
   |some (_,s)=>bif Nat.beq s B then x8 D (b-a) (b-a) λh=>x8 G 0 h λl=>k (.sub id B (a+l) (a+h)) else none
   |none=>none
  |_,_,_,_=>none
 | .slice t x none (some D) (some mx)=>match bw P t w x with
  |some (.row id)=>match w.ob id,isSlice P t,bw P 0 w D,bw P 0 w mx with
   |some (.row _ B xs),some (_,s),some (.pv (.int _ a)),some (.pv (.int _ b))=>bif Nat.beq s B then check (a=(xs.length:Int)/\b=(xs.length:Int)) (k (.aq id .full)) else none
   |_,_,_,_=>none
  |_=>none
 | .convert src U x=>match P.underlying src,P.underlying U with
  |some (.slice e),some .string=>match P.underlying e,mh P e,(bw P src w x).bind (elems w) with
   |some (.int .u8),some 1,some (1,xs)=>Vw (bytesOf xs) λb=>k (.pv (.str b))
   |_,_,_=>none
  |_,_=>pK (fe P o w) k
 | .lookup t x kx ok=>bif q8 h x&& !ok then none else match P.underlying t with
  |some (.map S V)=>match(bw P t w x).bind (Ij w),(bw P S w kx).bind jg with
   |some ks,some key=>bif ok&&kI P S key&&(qP P V).isSome then hasK (rz key ks) λb=>k (.two .any (.pv (.bool b))) else none
   |_,_=>match(bw P t w x).bind (maps w),(bw P S w kx).bind jg with
   |some (ks,Q),some key=>bif kI P S key then NV (WI key ks Q) (λv=>valK C V v λv=>k (.pv (found ok v true))) (pK (qP P V) λz=>k (.pv (found ok z false))) else none
   |_,_=>none
  |_=>none
 | .call c=>match c.callee with
  | .value f=>bif o.dst.any h.owns.contains then none else bif o.dst.any h.stay.contains&&wide w c f then OZ P C h F w c f λr=>k (.pv r) else
   bif wide w c f||c.args.toList.any (λx=>(qb h w x).isSome) then none else
   bif c.args.toList.any (x5 w) then
    match bw P 0 w f with
    |some (.pv (.fn g I))=>Fo P C w c.args.toList c.argTypes.toList λQ=>yE (F g ((Q++I).map .pv) []) λr=>Nb C g r λr=>bif r.plain&&r.jT then k (.pv r) else none
    |_=>none
   else
   match bw P 0 w f,j8 P w c.args.toList c.argTypes.toList with
   |some (.pv (.fn g I)),some Q=>yE (F g ((Q++I).map .pv) []) λr=>Nb C g r λr=>bif(!(c.args.toList.any (lZ w))||r.plain)&&r.jT then k (.pv r) else none
   |_,_=>none
  |_=>pK (yV P c w) k
 |_=>pK (ec P h F o w) k
noncomputable def CD (P:Program) (C:mj) (G:St) (t:TypeId) (m D x:Operand) (k:St->Option R):Option R:=
 match P.underlying t with
 |some (.map w q)=>match Wz P G q x with
  |some l=>match bw P t l m,(bw P w l D).bind jg,(bw P q l x).bind jg with
   |some (.row id),some key,some v=>match l.ob id with
    |some (.mp k' z B I)=>bif kI P w key&&v.Iy then
      W8 (D5 key v B I) λp=>aeo C w q p λp=>k { l with ob:=put l.ob id (some (.mp k' z p.1 p.2)) }
     else none
    |_=>none
   |_,_,_=>none
  |none=>none
 |_=>none
noncomputable def D3 (P:Program) (C:mj) (l:St) (t:TypeId) (m D:Operand) (k:St->Option R):Option R:=
 match P.underlying t with
 |some (.map q z)=>match bw P t l m,(bw P q l D).bind jg with
  |some (.row id),some key=>match l.ob id with
   |some (.mp k' w B G)=>bif kI P q key then
     W8 (mdel key B G) λp=>aeo C q z p λp=>k { l with ob:=put l.ob id (some (.mp k' w p.1 p.2)) }
    else none
   |_=>none
  |_,_=>none
 |_=>none
noncomputable def WL (P:Program) (C:mj) (l:St) (t:TypeId) (m G:Operand) (d:Nat) (k:St->Option R):Option R:=
 match N3 P l t m G with
 |some (z,id,key,k',e,q,B,I)=>bif Nat.beq id d then none else match qP P z,isSlice P z with
  |some (.dK _ []),some (D,s)=>bif Nat.beq e D&&Nat.beq s q&&Nat.blt 0 s then
    afj (aeB key B I) λxs w=>LP C e xs λxs=>mrK C k' e (B,w) λp=>k ((St.new { l with ob:=put l.ob id (some (.mr k' e q p.1 p.2)) } d (.row e q xs)).set (some d) (.row d))
   else none
  |_,_=>none
 |none=>none
noncomputable def YP (P:Program) (C:mj) (l:St) (t:TypeId) (m G x:Operand) (k:St->Option R):Option R:=
 match N3 P l t m G with
 |some (z,id,key,k',e,q,B,D)=>match x with
  | .const (.slice none 0 0)=>match isSlice P z with
   |some (w,s)=>bif Nat.beq e w&&Nat.beq s q&&Nat.blt 0 s then
     Y2 (D5 key (some []) B D) λp=>mrK C k' e p λp=>k { l with ob:=put l.ob id (some (.mr k' e q p.1 p.2)) }
    else none
   |none=>none
  |x=>match bw P z l x with
   |some (.row j)=>match l.ob j with
    |some (.row w s xs)=>bif Nat.beq e w&&Nat.beq s q&&Nat.blt j 10000 then
      Y2 (D5 key (some xs) B D) λp=>mrK C k' e p λp=>k { (l.dD j) with ob:=put (l.dD j).ob id (some (.mr k' e q p.1 p.2)) }
     else none
    |_=>none
   |_=>none
 |none=>none
noncomputable def Gx (P:Program) (C:mj) (h:Hint) (F:eX) (w:St) (c:Call) (f:Operand) (d:Option Nat) (k:St->Option R):Option R:=
 match(bw P 0 w f).bind S9,uM P h w c.args.toList c.argTypes.toList with
 |some (g,pre,B),some K=>
  let args:=pre++(K++B)
  let ids:=gN w 200 (args.flatMap SV.ids) [];let G:=iB (d.any h.stay.contains) w (q7 args);let m:=jj G 0 ids;let names:=m.map (·.2);let I:=iV m
  bif distinct ids&&Nat.blt ids.length 10000&&args.all (SV.closed ids) then
   match kg w ids I m with
   |some cM=>yF (F g (args.map (SV.qV I)) cM) λr l=>SJ P C ((m.filter λp=>h.keep.contains p.1).map (·.2)) ((m.filter λp=>h.bx.contains p.1).map (·.2)) cM l λq=>Nb C g r λr=>match nF names (iV (swap m)) m q with
    |some z=>bif r.jT then
      let D:=fJ (ids.filter G) w
      k (St.set { env:=D.env,ob:=λi=>(find z i).orElse λ_=>D.ob i } d (.pv r)) else none
    |none=>none
   |none=>none
  else none
 |_,_=>none
noncomputable def Gw (C:mj) (key:Nat) (F:eX) (B:St) (g:Nat) (args:List SV) (w:Nat->Nat) (d:Option Nat) (k:St->Option R):Option R:=
 let ids:=gN B 200 (args.flatMap SV.ids) [];let m:=qU w 0 ids;let G:=m.filter λp=> !(given w p.1)
 bif distinct ids&&Nat.blt ids.length 10000&&args.all (SV.closed ids)&&(ids.all (λi=> !(given w i))||(Nat.blt ids.length 1000&&ids.all λi=> !(given w i)||iJ i)) then
  match kg B ids (iV m) m with
  |some cM=>outC C (key+64 *cM.length) (F g (args.map (SV.qV (iV m))) cM) λD=>
    let z:=newNames (d.getD 0) 0 (D.2.drop G.length);let mm:=G++z
    bif Nat.ble z.length 8&&distinct (mm.map (·.1))&&distinct (mm.map (·.2))&&z.all (λx=>Nat.blt x.1 10000)&&z.all (λx=>Nat.ble 25000 x.2) then
     match nF (mm.map (·.2)) (iV (swap mm)) mm D.2 with
     |some l=>match D.1 with
      | .gy [.gy [.self 0, .lY,x]]=>bif(xz x).closed (mm.map (·.2)) then
        let q:=fJ (ids.filter (λi=> !(stays w i))++z.map (·.1)) B
        k (St.set { env:=q.env,ob:=λi=>(find l i).orElse λ_=>q.ob i } d (LB (find l) ((xz x).qV (iV (swap mm)))))
       else none
      |r=>bif r.jT then
        let q:=fJ (ids.filter (λi=> !(stays w i))++z.map (·.1)) B
        k (St.set { env:=q.env,ob:=λi=>(find l i).orElse λ_=>q.ob i } d (.pv r))
       else none
     |none=>none
    else none
  |none=>none
 else none
noncomputable def VA (P:Program) (C:mj) (h:Hint) (F:eX) (B:St) (c:Call) (f:Operand) (d key:Nat) (w:List Nat) (k:St->Option R):Option R:=
 let l:=iT h.nest (nK P w d 0 c.args.toList c.argTypes.toList) B;match(bw P 0 l f).bind S9,C7 P w d l 0 c.args.toList c.argTypes.toList with
 |some (g,pre,q),some z=>bif(nK P w d 0 c.args.toList c.argTypes.toList).all (λx=>Nat.blt x.1 10000) then
   Gw C key F l g (pre++(z++q)) (KN l (iB false l (wH w 0 z))) (some d) k else none
 |_,_=>none
noncomputable def Kl (P:Program) (C:mj) (h:Hint) (F:eX) (q:St) (c:Call) (f:Operand) (d:Option Nat) (k:St->Option R):Option R:=
 match d with
 |some d=>match find h.uP d with
  |some B=>VA P C h F q c f d B.1 B.2 k
  |none=>match bw P 0 q f,sW P (xJ h d).isSome q c.args.toList c.argTypes.toList with
  |some (.pv (.fn g w)),some I=>yE (F g ((I++w).map .pv) []) λr=>Nb C (bif(xJ h d).isSome then g+1000000 else g) r λr=>match r with
   | .gy [.gy [.self e, .dK G xs]]=>bif(xJ h d).isSome then none else k ((q.new d (.row e G xs)).set (some d) (.row d))
   | .agg z=>match xJ h d with
    |some []=>k (q.set (some d) (.pv (.agg z)))
    |some l=>match tY z l with
     |some D=>bif l.all (λx=>Nat.blt x.1 10000) then k ((iT h.nest l q).set (some d) (.ag D)) else none
     |none=>none
    |none=>none
   |_=>none
  |_,_=>none
 |none=>none
noncomputable def MA (P:Program) (C:mj) (z:St) (t:TypeId) (x:Operand) (d:Nat) (k:St->Option R):Option R:=
 match bw P 0 z x,Es P t with
 |some (.rp id K i D),some false=>match z.ob id with
  |some (.rn e l q w I xs B)=>bif Nat.beq K l&&Nat.beq D q&& !(Nat.beq id d)&&Nat.blt id 10000 then
    aaM B i λG=>LP C w G λG=>T9 C w (B.set i none) λB=>k ((St.new { z with ob:=put z.ob id (some (.rn e l q w I xs B)) } d (.row w I G)).set (some d) (.row d))
   else none
  |_=>none
 |_,_=>none
noncomputable def W7 (P:Program) (C:mj) (w:St) (t:TypeId) (id L i D j:Nat) (k:St->Option R):Option R:=
 match Es P t,mh P t,w.ob id,w.ob j with
 |some false,some 1,some (.rn e l q B G xs z),some (.row I K N)=>
  bif Nat.beq L l&&Nat.beq D q&&Nat.blt id 10000&&Nat.blt j 10000&&Nat.beq B I&&Nat.beq G K&& !(Nat.beq id j) then
   check (i<z.length) (T9 C B (z.set i (some N)) λz=>k { (w.dD j).dD (id+40000) with ob:=put ((w.dD j).dD (id+40000)).ob id (some (.rn e l q B G xs z)) })
  else none
 |_,_,_,_=>none
noncomputable def Xl (P:Program) (C:mj) (h:Hint) (F:eX) (o:Oper) (w:St) (k:St->Option R):Option R:=
 match o.op with
 | .makeSlice t l c=>match o.dst,isSlice P t,(bw P 0 w l).bind jg,(bw P 0 w c).bind jg with
  |some d,some (e,s),some (.int _ l),some (.int _ c)=>match zeroCells P e,P.info? e with
   |some z,some i=>bif Nat.blt 0 s&&Nat.beq z.length s then check (0<=l/\l<=c/\i.bytes *c.toNat<=281474976710656/\c<=9223372036854775807)
     (k ((w.new d (.row e s (List.replicate l.toNat z))).set (some d) (.row d))) else none
   |_,_=>none
  |_,_,_,_=>none
 | .store t x y=>match o.dst,bw P 0 w x,bw P t w y with
  |none,some (.rp id B i G),some (.pv v)=>match w.ob id,mh P t with
   |some (.row e D xs),some n=>bif Nat.beq B D&&Nat.beq v.cells.length n&&v.Iy then
     ef xs i λc=>SQ C e c λc=>bif Nat.ble (G+n) c.length then k { w with ob:=put w.ob id (some (.row e D (xs.set i (c.take G++v.cells++c.drop (G+n))))) } else none
    else none
   |_,_=>none
  |none,some (.rp id B i G),some (.row j)=>W7 P C w t id B i G j k
  |none,some (.ptr id G),some (.sub j B 0 n)=>pK (XO P w t id G j B n) k
  |none,some a,some v=>pK (storeAt P t w a v) k
  |_,_,_=>none
 | .load t x=>bif o.dst.any h.take.contains then
   match o.dst with
   |some d=>MA P C w t x d k
   |none=>none
  else wC P C h F o w λv=>k (w.set o.dst v)
 | .call c=>match c.callee with
  | .builtin .append=>match o.dst,c.args.toList,c.argTypes.toList with
   |some d,[x,y],[t,U]=>match isSlice P t,bw P t w x,bw P U w y with
    |some (e,s),some (.row id),some y=>match w.ob id,elems w y,P.info? e with
     |some (.row Q B xs),some (D,I),some i=>
      bif Nat.beq t U&&Nat.beq e Q&&Nat.beq s B&&Nat.beq B D&&Nat.blt 0 B&&(i.zero.map (λz=>z.cells.size)==some B)&&gO id then
       check ((xs.length+I.length) *i.bytes<=140737488355328/\xs.length+I.length<=4611686018427387904) (k ((w.new id (.row e B (xs++I))).set (some d) (.row id)))
      else none
     |some (.rn Q B q e2 s2 xs zs),some (D,I),some i=>
      bif Nat.beq t U&&Nat.beq e Q&&Nat.beq s B&&Nat.beq B D&&Nat.blt 0 B&&(i.zero.map (λz=>z.cells.size)==some B)&&gO id&&I.all (rG q) then
       check ((xs.length+I.length) *i.bytes<=140737488355328/\xs.length+I.length<=4611686018427387904) (T9 C e2 (zs++I.map λ_=>some []) λzs=>k ((w.new id (.rn e B q e2 s2 (xs++I.map λc=>c.set q .hole) zs)).set (some d) (.row id)))
      else none
     |_,_,_=>none
    |some (e,s),some (.aq id .full),some y=>match w.ob id,elems w y,P.info? e with
     |some (.row Q B xs),some (D,I),some i=>
      bif Nat.beq t U&&Nat.beq e Q&&Nat.beq s B&&Nat.beq B D&&Nat.blt 0 B&&(i.zero.map (λz=>z.cells.size)==some B)&&gO id&& !I.isEmpty then
       check ((xs.length+I.length) *i.bytes<=140737488355328/\xs.length+I.length<=4611686018427387904) (k ((w.new id (.row e B (xs++I))).set (some d) (.row id)))
      else none
     |_,_,_=>none
    |_,_,_=>none
   |_,_,_=>none
  | .builtin .delete=>match o.dst,c.args.toList,c.argTypes.toList with
   |none,[m,O],t::_=>D3 P C w t m O k
   |_,_,_=>none
  | .builtin .clear=>match o.dst,c.args.toList,c.argTypes.toList with
   |none,[x],[t]=>match isSlice P t,bw P t w x with
    |some (e,s),some (.sub id B lo V)=>match w.ob id,zeroCells P e with
     |some (.row Q D xs),some z=>bif Nat.beq s B&&Nat.beq B D&&Nat.beq z.length B&&Nat.beq e Q&&Nat.blt 0 B then
       check (V<=xs.length) (k { w with ob:=put w.ob id (some (.row Q D (xs.take lo++List.replicate (V-lo) z++xs.drop V))) }) else none
     |_,_=>none
    |none,_=>match Fs P w t x with
     |some K=>k K
     |none=>none
    |_,_=>none
   |_,_,_=>none
  | .value f=>bif o.dst.any h.owns.contains then Kl P C h F w c f o.dst k else bif o.dst.any h.stay.contains&&wide w c f then wC P C h F o w λv=>k (w.set o.dst v) else bif wide w c f then Gx P C h F w c f o.dst k else bif c.args.toList.any (λx=>(qb h w x).isSome) then
    match bw P 0 w f,Fp P h w c.args.toList c.argTypes.toList with
    |some (.pv (.fn g L)),some (vs,[id])=>match w.ob id with
     |some (.row e B xs)=>HR (F g (vs++L.map .pv) [(10000, .row e B xs)]) 10000 e B λr N=>Nb C g r λr=>LP C e N λN=>match r with
       | .self n=>bif gO id then check (n<=N.length) (k ((w.new id (.row e B (N.take n))).set o.dst (.row id))) else none
       |r=>bif r.plain then k (St.set { w with ob:=put w.ob id (some (.row e B N)) } o.dst (.pv r)) else none
     |_=>none
    |_,_=>none
   else bif c.args.toList.any (x5 w) then wC P C h F o w λv=>k (w.set o.dst v)
   else bif c.args.toList.any (lZ w) then
    match bw P 0 w f,j8 P w c.args.toList c.argTypes.toList with
    |some (.pv (.fn g L)),some vs=>yE (F g ((vs++L).map .pv) []) λr=>Nb C g r λr=>bif r.plain&&r.jT then k (w.set o.dst (.pv r)) else
      match ni.jV w c.args.toList with
      |some K=>match bw P 0 K f,j8 P K c.args.toList c.argTypes.toList with
       |some (.pv (.fn g' S)),some vs'=>bif c.args.toList.any (lZ K) then none else yE (F g' ((vs'++S).map .pv) []) λr=>Nb C g' r λr=>bif r.jT then k (K.set o.dst (.pv r)) else none
       |_,_=>none
      |none=>none
    |_,_=>none
   else wC P C h F o w λv=>k (w.set o.dst v)
  |_=>wC P C h F o w λv=>k (w.set o.dst v)
 | .mapUpdate t m O x=>match o.dst with
  |none=>bif q8 h m then YP P C w t m O x k else CD P C w t m O x k
  |some _=>none
 | .insert t m O x=>match o.dst with
  |none=>bif q8 h m then YP P C w t m O x k else CD P C w t m O x k
  |some _=>none
 | .lookup t m O ok=>bif q8 h m&& !ok then
   match o.dst with
   |some d=>WL P C w t m O d k
   |none=>none
  else wC P C h F o w λv=>k (w.set o.dst v)
 | .range t x=>match o.dst,P.underlying t,(bw P t w x).bind jg with
  |some d,some .string,some (.str s)=>k ((w.new d (.it s 0)).set (some d) (.ptr d 0))
  |_,_,_=>none
 | .next x true=>match o.dst,bw P 0 w x with
  |some d,some (.ptr id 0)=>match w.ob id with
   |some (.it s pos)=>bif Nat.blt pos s.length then
     k (St.set { w with ob:=put w.ob id (some (.it s (pos+(Utf8.decode ⟨s.toArray⟩ pos).2))) } (some d) (.pv (.gy [.bool true, .int .i64 pos, .int .i32 (Utf8.decode ⟨s.toArray⟩ pos).1])))
    else k (w.set (some d) (.pv (.gy [.bool false])))
   |_=>none
  |_,_=>none
 | .assign _| .buildSlice _ _ _| .box _ _| .alloc _| .makeMap _ _| .makeFunc _ _ _| .build _ _=>pK (step0 P h F o w) k
 |_=>wC P C h F o w λv=>k (w.set o.dst v)
noncomputable def Qn (C:mj) (l:St) (t:Nat) (k:St->Option R):Option R:=
 match l.env t with
 |some (.ag [.r id])=>match l.ob id with
  |some (.rn e z q I B xs D)=>bif iJ id then
    Sd (pG D) λG=>LP C e (w5 q B xs G) λw=>k { env:=λi=>(l.env i).map (SV.dh id (.dK z w)),ob:=put (λi=>(l.ob i).map (Ob.dh id (.dK z w))) id none }
   else none
  |_=>pK (qY l t) k
 |_=>pK (qY l t) k
noncomputable def G0 (C:mj):List Nat->St->(St->Option R)->Option R
 |[],q,k=>k q
 |t::l,q,k=>Qn C q t λq=>G0 C l q k
noncomputable def stepT (P:Program) (C:mj) (h:Hint) (F:eX) (o:Oper) (l:St) (k:St->Option R):Option R:=G0 C (FF h o) l λl=>Xl P C h F o l k
def ZC (w:Array Oper) (o:Oper) (q:St) (k:Bool->St->Option R):Option R:=
 match o.guard with
 |none=>k true q
 |some (j,l)=>match(w[j]?).bind (·.dst) with
  |some d=>match q.env d with
   |some (.pv (.bool true))=>k l q
   |some (.pv (.bool false))=>k (!l) q
   |some .undef=>k false q
   |_=>none
  |none=>none
def guards (l:Array Oper) (i:Nat):Bool:=l.toList.any λo=>match o.guard,o.op with
 |some (j,_),_=>Nat.beq j i
 |none,_=>false
def L2 (b:Bool) (d:Option Nat) (l:St) (k:St->Option R):Option R:=
 bif b then
  match d with
  |some d=>match l.env d with
   |some (.pv (.bool t))=>bif t then k (l.set (some d) (.pv (.bool true))) else k (l.set (some d) (.pv (.bool false)))
   |_=>k l
  |none=>k l
 else k l
noncomputable def Jw (P:Program) (C:mj) (h:Hint) (F:eX) (w:Array Oper):Nat->List Oper->St->(St->Option R)->Option R
 |_,[],q,k=>k q
 |i,o::l,q,k=>ZC w o q λb q=>bif b then stepT P C h F o q λq=>L2 (guards w i) o.dst q λq=>Jw P C h F w (i+1) l q k
   else Jw P C h F w (i+1) l (q.set o.dst .undef) k
noncomputable def B6 (P:Program) (C:mj) (h:Hint) (F:eX) (q:Array Oper):Nat->List Oper->List (Nat×gz)->St->(St->Option R)->Option R
 |_,[],_,w,k=>k w
 |i,o::l,z,w,k=>ZC q o w λb w=>bif b then
    bif isF h w o&&(FF h o).isEmpty then
     wC P C h F o w λv=>bif ye q z i ((wB P h q o w).fill w (w.set o.dst v)) then
      L2 (guards q i) o.dst (w.set o.dst v) λB=>B6 P C h F q (i+1) l ((i,(wB P h q o w).fill w (w.set o.dst v))::z) B k else none
    else stepT P C h F o w λB=>bif ye q z i ((uX P h q o w).fill w B) then
      L2 (guards q i) o.dst B λD=>B6 P C h F q (i+1) l ((i,(uX P h q o w).fill w B)::z) D k else none
   else bif ye q z i ((uu q o).fill w (w.set o.dst .undef)) then B6 P C h F q (i+1) l ((i,(uu q o).fill w (w.set o.dst .undef))::z) (w.set o.dst .undef) k else none
@[irreducible] noncomputable def KY (P:Program) (h:Hint) (F:eX) (c:Code) (st:St) (k:Ex->St->Option R):Option R:=
 open Classical in if l : ∃ x n, exec P h F n (.loop c) st = some x then k l.choose.1 l.choose.2 else none
def seqK (q:St->(Ex->St->Option R)->Option R) (k:Ex->St->Option R):Ex->St->Option R:=λe l=>match e with
 | .normal=>q l k
 |e=>k e l
def Vu (id:Nat) (k:Ex->St->Option R):Ex->St->Option R:=λe l=>match e with
 | .exit j=>bif Nat.beq j id then k .normal l else k (.exit j) l
 |e=>k e l
noncomputable def Vk (P:Program) (h:Hint) (F:eX) (c:Code) (k:Ex->St->Option R):Ex->St->Option R:=λe l=>match e with
 | .normal=>KY P h F c (h.canon (fG c) l) k
 |e=>k e l
noncomputable def CF (C:mj):List Nat->St->(St->Option R)->Option R
 |[],w,k=>k w
 |id::l,w,k=>match w.ob id with
  |some (.mr I e z G L)=>bif iJ id then
    Sd (pG L) λxs=>mpK C I e z (G,xs.map (.dK z)) λp=>CF C l { env:=λi=>(w.env i).map (SV.dh id (.mp p.1 p.2)),ob:=put (λi=>(w.ob i).map (Ob.dh id (.mp p.1 p.2))) id none } k
   else none
  |some (.rn e z q Q K xs N)=>bif iJ id then
    Sd (pG N) λO=>LP C e (w5 q K xs O) λB=>CF C l { env:=λi=>(w.env i).map (SV.dh id (.dK z B)),ob:=put (λi=>(w.ob i).map (Ob.dh id (.dK z B))) id none } k
   else none
  |_=>match w.LC id with
   |some D=>CF C l D k
   |none=>none
noncomputable def ae0 (C:mj) (h:Hint) (id:Nat) (q:St) (k:St->Option R):Option R:=
 match find h.nS id with
 |some l=>CF C l q k
 |none=>k q
noncomputable def tu (P:Program) (C:mj) (h:Hint) (F:eX):Code->St->(Ex->St->Option R)->Option R
 | .skip,l,k=>k .normal l
 | .label _,l,k=>k .normal l
 | .region id q w,l,k=>ae0 C h id l λl=>
  bif w then
   bif tL 0 q.toList then B6 P C h F q 0 q.toList [] (sX (yA q.toList) l) (k .normal) else none
  else Jw P C h F q 0 q.toList l (k .normal)
 | .seq a b,l,k=>match find h.blk (fG a) with
  |some x=>check (x.1 l=true) (k (exOf (x.2 l).1) (x.2 l).2)
  |none=>tu P C h F a l (seqK (tu P C h F b) k)
 | .cond c a b,l,k=>match bw P 0 l c with
  |some (.pv (.bool t))=>bif t then tu P C h F a l k else tu P C h F b l k
  |_=>none
 | .block id c,l,k=>tu P C h F c l (Vu id k)
 | .loop c,l,k=>KY P h F c (h.canon (fG c) l) k
 | .exit id,l,k=>k (.exit id) l
 | .ret,l,k=>k .ret l
 | .scope c,l,k=>tu P C h F c l k
 |_,_,_=>none
noncomputable def E8 (P:Program) (C:mj) (h:Hint) (F:eX) (key:Nat):Code->(Ex->St->Option R)->Option (Code×(Ex->St->Option R))
 | .seq a b,k=>match find h.blk (fG a) with
  |some _=>none
  |none=>match E8 P C h F key a (seqK (tu P C h F b) k) with
   |some x=>some x
   |none=>E8 P C h F key b k
 | .cond _ a b,k=>match E8 P C h F key a k with
  |some x=>some x
  |none=>E8 P C h F key b k
 | .block id c,k=>E8 P C h F key c (Vu id k)
 | .loop c,k=>bif Nat.beq (fG c) key then some (c,k) else E8 P C h F key c (Vk P h F c k)
 | .scope c,k=>E8 P C h F key c k
 |_,_=>none
end
noncomputable def abM (P:Program) (C:mj) (H:Nat->Hint) (gT:eX) (f:Nat) (args:List SV) (cM:List (Nat×Ob)):Option (AV×List (Nat×Ob)):=
 match P.funcs[f]? with
 |some fn=>match fn.body with
  |some c=>bif Nat.ble args.length fn.ntmps&&(cM.map (·.1)).all (λi=> !(iJ i)||giv i) then tu P C (H f) (run P H gT) c { env:=find (zU 0 args),ob:=find cM } (aci P (H f).own fn ((cM.map (·.1)).filter λi=> !(iJ i))) else none
  |none=>none
 |none=>none
noncomputable def yK (P:Program) (C:mj) (H:Nat->Hint) (gT:eX) (f key:Nat) (names:List Nat) (l:List (Nat×SV)) (w:List (Nat×Ob)):Option (AV×List (Nat×Ob)):=
 match P.funcs[f]? with
 |some fn=>match fn.body with
  |some c=>match E8 P C (H f) (run P H gT) key c (aci P (H f).own fn names) with
   |some (q,k)=>KY P (H f) (run P H gT) q { env:=find l,ob:=find w } k
   |none=>none
  |none=>none
 |none=>none
noncomputable def Xh (P:Program) (C:mj) (H:Nat->Hint) (gT:eX) (f key:Nat) (names:List Nat) (q:List (Nat×SV)) (w:List (Nat×Ob)):Option (AV×List (Nat×Ob)):=
 match P.funcs[f]? with
 |some fn=>match fn.body with
  |some c=>match E8 P C (H f) (run P H gT) key c (aci P (H f).own fn names) with
   |some (l,k)=>tu P C (H f) (run P H gT) l ((H f).canon (fG l) { env:=find q,ob:=find w }) (Vk P (H f) (run P H gT) l k)
   |none=>none
  |none=>none
 |none=>none
section
variable {R:Type} {P:Program} {C:mj} {h:Hint} {F:eX}
def ff {q:Type} {c:Option q} {k:q->Option R} {r:R} (l:pK c k=some r):∃x,c=some x/\k x=some r:=by cases c with
 |none=>simp[pK] at l
 |some x=>exact⟨x,rfl,l⟩
theorem gG {p:Prop} [Decidable p] {x:Option R} {r:R} (l:check p x=some r):p/\x=some r:=by simp_all[check]
def NL {l:Type} {xs:List l} {i:Int} {k:l->Option R} {r:R} (q:bp xs i k=some r):0<=i/\∃x,xs[i.toNat]? =some x/\k x=some r:=by grind[bp]
def NN {l:Type} {xs:List l} {i:Nat} {k:l->Option R} {r:R} (q:ef xs i k=some r):∃x,xs[i]? =some x/\k x=some r:=by grind[ef]
def wh {c:Option (AV×List (Nat×Ob))} {k:AV->Option R} {r:R} (l:yE c k=some r):∃x,c=some (x,[])/\k x=some r:=by unfold yE at l;grind
def VC {c:Option (AV×List (Nat×Ob))} {w e z:Nat} {k:AV->List (List AV)->Option R} {r:R} (l:HR c w e z k=some r):∃x xs,c=some (x,[(w, .row e z xs)])/\k x xs=some r:=by
 unfold HR at l;split at l
 .replace l:=cg l;obtain⟨q,l⟩:=l;simp only[aT] at q;have B:=beq_iff.1 q.1.1;have D:=beq_iff.1 q.1.2;have G:=beq_iff.1 q.2;grind
 simp_all
def pR {q T:Type} {enc:T->q} {c:q} {k:T->Option R} {r:R} (l:sj enc c k=some r):∃d,enc d=c/\k d=some r:=by
 unfold sj at l;split at l
 .grind
 simp_all
def DU {e:TypeId} {c:List AV} {k:List AV->Option R} {r:R} (l:SQ C e c k=some r):k c=some r:=by
 unfold SQ at l;split at l
 .obtain⟨x,rfl,q⟩:=pR l;omega
 omega
theorem qK {e:TypeId} {c:List (List AV)} {k:List (List AV)->Option R} {r:R} (l:LP C e c k=some r):k c=some r:=by
 unfold LP at l;split at l
 .obtain⟨x,rfl,q⟩:=pR l;omega
 omega
def se {g:Nat} {c:AV} {k:AV->Option R} {r:R} (l:Nb C g c k=some r):k c=some r:=by
 unfold Nb at l;split at l
 .obtain⟨x,rfl,q⟩:=pR l;omega
 omega
def aa2 {t:TypeId} {c:AV} {k:AV->Option R} {r:R} (l:valK C t c k=some r):k c=some r:=by
 unfold valK at l;split at l
 .obtain⟨x,rfl,q⟩:=pR l;omega
 omega
def GL {w q:TypeId} {c:List AV×List AV} {k:List AV×List AV->Option R} {r:R} (l:aeo C w q c k=some r):k c=some r:=by
 unfold aeo at l;split at l
 .obtain⟨x,rfl,z⟩:=pR l;omega
 omega
def WE {x:Option (Option AV)} {k:AV->Option R} {z:Option R} {r:R} (l:NV x k z=some r):(∃v,x=some (some v)/\k v=some r)\/(x=some none/\z=some r):=by unfold NV at l;grind
def Og {x:Option (List AV×List AV)} {k:List AV×List AV->Option R} {r:R} (l:W8 x k=some r):∃p,x=some p/\k p=some r:=by unfold W8 at l;grind
def Kk {c:Option (AV×List (Nat×Ob))} {k:AV->List (Nat×Ob)->Option R} {r:R} (q:yF c k=some r):∃x l,c=some (x,l)/\k x l=some r:=by unfold yF at q;grind
def Gg {z:Nat} {l:List (Nat×Ob)} {k:Ob->List (Nat×Ob)->Option R} {r:R} (q:mZ z l k=some r):∃o w,l=(z,o)::w/\k o w=some r:=by
 unfold mZ at q;split at q
 .replace q:=cg q;obtain⟨B,q⟩:=q;have:=beq_iff.1 B;grind
 simp_all
theorem N7 {l:List (Nat×Ob)} {k:Option R} {r:R} (q:Qa l k=some r):l=[]/\k=some r:=by unfold Qa at q;grind
def Av {o l:Ob} {k:Option R} {r:R} (q:wW o l k=some r):o=l/\k=some r:=by simp_all[wW]
def Vp {e q:Nat} {o:Ob} {k:List (List AV)->Option R} {r:R} (l:C8 e q o k=some r):∃xs,o= .row e q xs/\k xs=some r:=by
 unfold C8 at l;split at l
 .replace l:=cg l;simp_all
 simp_all
def Vo {z w:Nat} {o:Ob} {k:List AV×List AV->Option R} {r:R} (l:Sf z w o k=some r):∃p,o= .mp z w p.1 p.2/\k p=some r:=by
 unfold Sf at l;split at l
 .replace l:=cg l;obtain⟨q,l⟩:=l;simp only[aT] at q;have B:=beq_iff.1 q.1;have D:=beq_iff.1 q.2;grind
 simp_all
def aal {x:Option (Option Nat)} {k:Bool->Option R} {r:R} (l:hasK x k=some r):∃q,x=some q/\k q.isSome=some r:=by unfold hasK at l;grind
def Sl {x:Option (List UInt8)} {k:List UInt8->Option R} {r:R} (l:Vw x k=some r):∃b,x=some b/\k b=some r:=by unfold Vw at l;grind
def Xs {x:Option (List (List AV)×List (Option (List (List AV))))} {k:List (List AV)->List (Option (List (List AV)))->Option R} {r:R} (l:afj x k=some r):∃p,x=some p/\k p.1 p.2=some r:=by unfold afj at l;grind
def LG {x:Option (List AV×List (Option (List (List AV))))} {k:List AV×List (Option (List (List AV)))->Option R} {r:R} (l:Y2 x k=some r):∃p,x=some p/\k p=some r:=by unfold Y2 at l;grind
def Cs {x:Option (List (List (List AV)))} {k:List (List (List AV))->Option R} {r:R} (q:Sd x k=some r):∃l,x=some l/\k l=some r:=by unfold Sd at q;grind
theorem Oc {l:List (Option (List (List AV)))} {i:Nat} {k:List (List AV)->Option R} {r:R} (w:aaM l i k=some r):∃q,l[i]? =some (some q)/\k q=some r:=by grind[aaM]
def D7 {e:TypeId} {q:List (Option (List (List AV)))} {k:List (Option (List (List AV)))->Option R} {r:R} (l:T9 C e q k=some r):k q=some r:=by
 unfold T9 at l;split at l
 .obtain⟨x,rfl,w⟩:=pR l;omega
 omega
def K9 {q e:TypeId} {c:List AV×List (Option (List (List AV)))} {k:List AV×List (Option (List (List AV)))->Option R} {r:R} (l:mrK C q e c k=some r):k c=some r:=by
 unfold mrK at l;split at l
 .obtain⟨x,rfl,w⟩:=pR l;omega
 omega
def aez {q e:TypeId} {w:Nat} {c:List AV×List AV} {k:List AV×List AV->Option R} {r:R} (l:mpK C q e w c k=some r):k c=some r:=by
 unfold mpK at l;split at l
 .obtain⟨x,rfl,z⟩:=pR l;omega
 omega
def IP {o w:Ob} {k:Ob->Option R} {r:R} (l:QJ C o w k=some r):k w=some r:=by
 unfold QJ at l;split at l
 .obtain⟨xs,rfl,q⟩:=Vp l;exact qK q
 .obtain⟨p,rfl,q⟩:=Vo l;exact GL q
 .unfold asLp at l;grind
 .obtain⟨rfl,q⟩:=Av l;omega
theorem J8:∀{l:List SV} {q:List AV},nE l=some q->l=q.map .pv
 |[],q,h=>by simp_all[nE]
 |s::l,q,h=>by cases s with
  |pv v=>simp[nE,cu] at h;obtain⟨z,w,rfl⟩:=h;rw[J8 w];rfl
  |_=>simp[nE] at h
def ZR {o q:Ob} {k:Ob->Option R} {r:R} (l:boxK P C o q k=some r):k q=some r:=by
 unfold boxK at l;split at l
 .split at l
  .unfold Ka at l;split at l
   .rename_i h;have:=qK l;rw[<-h.choose_spec] at this;exact this
   .cases l
  split at l
  .unfold asBox at l;split at l
   .split at l
    .replace l:=cg l;obtain⟨w,l⟩:=l;have:=beq_iff.1 w;obtain⟨x,e,l⟩:=pR l;grind[J8]
    .simp_all
   .simp_all
  .obtain⟨rfl,z⟩:=Av l;exact z
 .exact IP l
def z8 {keep D:List Nat}:∀{l B:List (Nat×Ob)} {k:List (Nat×Ob)->Option R} {r:R},SJ P C keep D l B k=some r->k B=some r
 |[],B,k,r,q=>by obtain⟨rfl,K⟩:=N7 q;omega
 |(L,o)::l,B,k,r,q=>by replace q:=Gg q;obtain⟨N,I,rfl,q⟩:=q;cases z:keep.contains _ with
  |true=>rw[z] at q;obtain⟨e,q⟩:=Av q;subst e;exact z8 (k:=λG=>k _) q
  |false=>
   rw[z] at q;cases w:D.contains _ with
   |true=>rw[w] at q;simp at q;exact z8 (k:=λG=>k _) (ZR q)
   |false=>
   rw[w] at q;simp at q;exact z8 (k:=λG=>k _) (IP q)
def aaS {a:AV} {k:List AV->Option R} {r:R} (q:ptrK a k=some r):∃l,a= .ref l/\k l=some r:=by unfold ptrK at q;grind
def SH {a:AV} {k:AV->Option R} {r:R} (l:ab8 C a k=some r):∃q,a= .ref q/\k (.ref q)=some r:=by
 obtain⟨q,e,l⟩:=aaS l;refine⟨q,e,?_⟩;split at l
 .obtain⟨x,w,l⟩:=pR l;simp_all
 omega
def C6:∀{l q:List (Nat×Ob)} {k:Option R} {r:R},EL l q k=some r->q=l/\k=some r
 |[],q,k,r,w=>by grind[EL,N7]
 |(L,o)::l,q,k,r,w=>by obtain⟨N,K,e1,z⟩:=Gg w;obtain⟨D,B⟩:=Av z;obtain⟨G,I⟩:=C6 B;simp_all
theorem O0 {z:St} {c:Call} {f:Operand} {k:AV->Option R} {r:R} (q:OZ P C h F z c f k=some r):∃v,tI P h F z c f=some v/\k v=some r:=by
 unfold OZ at q;split at q
 .rename_i g args G;obtain⟨I,q⟩:=cg q;split at q
  .rename_i cM K;obtain⟨x,l,L,q⟩:=Kk q;obtain⟨e,B⟩:=C6 q;subst e;obtain⟨w,D⟩:=cg (se B);refine⟨x,?_,D⟩;simp[tI,G,I,aj,K,L,FO,w,sn]
  simp_all
 simp_all
theorem pS {w:Option SV} {d q:Nat} {k:Nat->Option R} {r:R} (l:x8 w d q k=some r):∃n,iA w d q=some n/\k n=some r:=by
 unfold x8 at l;split at l
 .exact⟨d,rfl,l⟩
 .grind[gG,iA]
 simp_all
def WA {w:St} {v:SV} {k:AV->Option R} {r:R} (q:aen C w v k=some r):∃x,nj w v=some x/\k x=some r:=by
 unfold aen at q;split at q
 .grind[Oc,nj,qK]
 .split at q
  .obtain⟨l,z,q⟩:=Cs q;exact⟨_,by simp_all[nj,kY,Ob.val],qK q⟩
  .exact ff q
 .exact ff q
def Dk {z:St}:∀{xs:List Operand} {q:List TypeId} {k:List AV->Option R} {r:R},Fo P C z xs q k=some r->∃w,j8 P z xs q=some w/\k w=some r
 |[],_,k,r,l=>⟨[],rfl,l⟩
 |x::xs,q,k,r,l=>by
  simp[Fo] at l;split at l
  .obtain⟨a,D,l⟩:=WA l;obtain⟨w,B,l⟩:=Dk l;simp_all[j8]
  simp_all
def Vj {q:St}:∀{xs:List Operand},xs.any (x5 q)=true->xs.any (lZ q)=true:=by intro xs h;obtain⟨x,w,l⟩:=lD.1 h;cases x with
 |tmp i=>simp[x5] at l;simp[lZ];grind
 |_=>cases l
def Fc {o:Oper} {L:St} {k:SV->Option R} {r:R} (l:wC P C h F o L k=some r):∃v,ec P h F o L=some v/\k v=some r:=by
 unfold wC at l;split at l
 .rename_i c x y D;split at l
  .rename_i t I;cases t with
   |true=>simp_all[ff,ec,fe]
   |false=>simp_all[ff,ec,fe]
  simp_all
 .rename_i x D;split at l
  .rename_i a B;obtain⟨cs,rfl,w⟩:=SH l;simp_all[ec,fe]
  simp_all[ff,ec]
 .rename_i t x ix D;split at l
  .simp_all[ff,ec,fe]
  .rename_i hna;have hp:ec P h F o L=xD P L t x ix:=by
    simp only[ec,D,fe]
   rw[hp];split at l
   .rename_i e s V xs q i Q B U;replace l:=cg l;obtain⟨G,l⟩:=l;have:=beq_iff.1 G;subst this;obtain⟨h0,c,I,w⟩:=NL l;exact⟨_,by simp[xD,Q,B,U,h0,I],DU w⟩
   .rename_i e s id q i Q B U;split at l
    .rename_i e' V xs K;replace l:=cg l;obtain⟨G,l⟩:=l;have:=beq_iff.1 G;subst this;obtain⟨I,w⟩:=gG l;exact⟨_,by simp[xD,Q,B,U,K,I],w⟩
    .rename_i e' V _ _ _ xs _ K;replace l:=cg l;obtain⟨G,l⟩:=l;have:=beq_iff.1 G;subst this;obtain⟨I,w⟩:=gG l;exact⟨_,by simp[xD,Q,B,U,K,I],w⟩
    simp_all
   .rename_i e s id V lo hi' q i Q B U;replace l:=cg l;grind[beq_iff,gG,xD]
   .exact ff l
   .cases l
 .rename_i t x ix D;split at l
  .rename_i s q i S B U;obtain⟨h0,b,G,w⟩:=NL l;simp_all[ec,fe]
  simp_all
 .rename_i t x D;cases Ya:o.dst.any h.take.contains with
  |true=>simp_all
  |false=>
  rw[Ya] at l;simp only[au] at l;have hfp:ec P h F o L=fe P o L:=by simp only[ec,D,Ya,au]
  rw[hfp];split at l
  .rename_i id V i off B;split at l
   .rename_i e sz' xs K;replace l:=cg l;obtain⟨G,l⟩:=l;have:=beq_iff.1 G;subst this;obtain⟨c,I,l⟩:=NN l;replace l:=DU l;obtain⟨v,ht,w⟩:=ff l;simp_all[fe]
   .rename_i e sz' q e' s' xs ys K;replace l:=cg l;obtain⟨G,l⟩:=l;simp only[aT] at G;obtain⟨⟨b1,b2⟩,b3⟩:=G;have e1:=beq_iff.1 b1;have e2:=beq_iff.1 b2;have e3:Es P t=some false:=by simpa using b3
    subst e1 e2;obtain⟨I,w⟩:=gG l;exact⟨_,by simp[fe,D,B,K,I,e3],w⟩
   simp_all
  simp_all[ff]
 .rename_i op t x y t' D;have dflt:pK (fe P o L) (λv=>k v)=some r->∃v,ec P h F o L=some v/\k v=some r:=λl=>by
   simp_all[ff,ec]
  split at l
  .rename_i ka a kb b B hy;split at l
   .replace l:=cg l;obtain⟨G,l⟩:=l;have w:ka=kb:=by simpa using G
    subst w;obtain⟨I,w⟩:=gG l;exact⟨_,by simp[ec,fe,D,B,hy,bin,GI,I],w⟩
   .replace l:=cg l;obtain⟨G,l⟩:=l;have w:ka=kb:=by simpa using G
    subst w;obtain⟨I,w⟩:=gG l;exact⟨_,by simp[ec,fe,D,B,hy,bin,GI,I],w⟩
   .obtain⟨I,w⟩:=gG l
    have:¬b<0:=af
    exact⟨_,by simp[ec,fe,D,B,hy,bin,Cc,this],w⟩
   .obtain⟨I,w⟩:=gG l
    have:¬b<0:=af
    exact⟨_,by simp[ec,fe,D,B,hy,bin,Cc,this],w⟩
   simp_all
  .rename_i a b B hy;split at l
   .obtain⟨I,w⟩:=gG l;exact⟨_,by simp[ec,fe,D,B,hy,bin,Xm,I],w⟩
   .exact dflt l
  simp_all
 .rename_i t x lo U D;split at l
  .rename_i s lv hv' S B O N;obtain⟨n,hn,l⟩:=pS l;obtain⟨m,hm,w⟩:=pS l;exact⟨_,by simp[ec,fe,D,S,B,O,N,hn,hm],w⟩
  .rename_i e V xs lv hv' S B O N;split at l
   .rename_i e' s Q;replace l:=cg l;obtain⟨G,l⟩:=l;have:=beq_iff.1 G;subst this;obtain⟨n,hn,l⟩:=pS l;obtain⟨m,hm,w⟩:=pS l;exact⟨_,by simp[ec,fe,D,S,B,O,N,Q,hn,hm],w⟩
   simp_all
  .rename_i e id lv hv' S B O N;split at l
   .rename_i e' s e2 V xs Q K;replace l:=cg l;obtain⟨G,l⟩:=l;have:=beq_iff.1 G;subst this;obtain⟨n,hn,l⟩:=pS l;obtain⟨m,hm,w⟩:=pS l;simp_all[ec,fe]
   simp_all
  .rename_i e id V a b lv hv' S B O N;split at l
   .rename_i e' s Q;replace l:=cg l;grind[beq_iff,pS,ec,fe]
   simp_all
  simp_all
 .rename_i t x U mx D;split at l
  .rename_i id B;split at l
   .rename_i e2 V xs e s ka va kb vb K Q hh hm;replace l:=cg l;obtain⟨G,l⟩:=l;have:=beq_iff.1 G;subst this;obtain⟨I,w⟩:=gG l;simp_all[ec,fe,XZ,aC,trivial]
   simp_all
  simp_all
 .rename_i src dst x D;split at l
  .rename_i e S hd;split at l
   .rename_i xs he Q B;obtain⟨b,G,w⟩:=Sl l;simp_all[ec,fe]
   simp_all
  simp_all[ff,ec]
 .rename_i t x kx ok D;cases hrm:(q8 h x&& !ok) with
  |true=>simp_all
  |false=>
  rw[hrm] at l;simp only[au] at l;split at l
  .rename_i kt et S;split at l
   .rename_i ks key B w;obtain⟨hok,l⟩:=cg l;obtain⟨q,hq,l⟩:=aal l;simp_all[ec,fe,au,aj,ey]
   .rename_i hno;split at l
    .rename_i ks vs key B w;have hnk:(bw P t L x).bind (Ij L)=none:=by
      cases hkk:(bw P t L x).bind (Ij L) with
      |none=>rfl
      |some ks'=>simp_all
     obtain⟨hok,l⟩:=cg l;rcases WE l with⟨v,hg,l⟩|⟨hg,l⟩
     .exact⟨_,by simp only[ec,fe,D,hrm,au,S,hnk,B,w,hok,aj,hg],aa2 l⟩
     .obtain⟨z,hz,l⟩:=ff l;exact⟨_,by simp only[ec,fe,D,hrm,au,S,hnk,B,w,hok,aj,hg,hz,ey],l⟩
    simp_all
  simp_all
 .rename_i c D;split at l
  .rename_i f I;cases how:o.dst.any h.owns.contains with
   |true=>simp_all
   |false=>
   rw[how] at l;simp only[au] at l;cases hro:(o.dst.any h.stay.contains&&wide L c f) with
   |true=>rw[hro] at l;simp only[aj] at l;grind[O0,ec]
   |false=>
   rw[hro] at l;simp only[au] at l;cases KQ:(wide L c f||c.args.toList.any (λx=>(qb h L x).isSome)) with
   |true=>grind
   |false=>
   rw[KQ] at l;simp only[au] at l;cases hag:c.args.toList.any (x5 L) with
   |true=>
    rw[hag] at l;simp only[aj] at l;have V2:=Vj hag;split at l
    .rename_i g caps hf;obtain⟨vs,hvs,l⟩:=Dk l;obtain⟨r',B,l⟩:=wh l;obtain⟨hp,w⟩:=cg (se l);refine⟨_,?_,w⟩;simp only[ec,D,I,hf,hvs,B];grind
    simp_all
   |false=>
   rw[hag] at l;simp only[au] at l;split at l
   .rename_i g caps vs hf hvs;obtain⟨r',B,l⟩:=wh l;obtain⟨G,w⟩:=cg (se l);refine⟨_,?_,w⟩;simp[ec,D,I,hf,hvs];grind
   simp_all
  simp_all[ff,ec]
 .exact ff l
def AX {z:St} {t:TypeId} {m w x:Operand} {k:St->Option R} {r:R} (l:CD P C z t m w x k=some r):∃q,yP P z t m w x=some q/\k q=some r:=by
 unfold CD at l;split at l
 .split at l
  .split at l
   .split at l
    .obtain⟨B,l⟩:=cg l;obtain⟨p,D,l⟩:=Og l;replace l:=GL l;simp_all[yP]
    simp_all
   simp_all
  simp_all
 simp_all
def GK {z:St} {t:TypeId} {m w:Operand} {k:St->Option R} {r:R} (l:D3 P C z t m w k=some r):∃q,yO P z t m w=some q/\k q=some r:=by
 unfold D3 at l;split at l
 .split at l
  .split at l
   .obtain⟨B,l⟩:=cg l;obtain⟨p,D,l⟩:=Og l;replace l:=GL l;simp_all[yO]
   simp_all
  simp_all
 simp_all
def I3 {K:St} {c:Call} {f:Operand} {d:Option Nat} {k:St->Option R} {r:R} (q:Gx P C h F K c f d k=some r):∃z,kG P h F K c f d=some z/\k z=some r:=by
 unfold Gx at q;split at q
 .rename_i g I V N D;replace q:=cg q;obtain⟨L,q⟩:=q;split at q
  .rename_i cM Q;obtain⟨U,l,S,q⟩:=Kk q;replace q:=se (z8 q);split at q
   .rename_i G w;replace q:=cg q;obtain⟨B,O⟩:=q;refine⟨_,?_,O⟩;simp only[kG,N,D,L,aj,Q,S,w,B]
   simp_all
  simp_all
 simp_all
def Ip {B:St} {t:TypeId} {m z x:Operand} {k:St->Option R} {r:R} (l:YP P C B t m z x k=some r):∃q,WK P B t m z x=some q/\k q=some r:=by
 unfold YP at l;split at l
 .split at l
  .split at l
   .replace l:=cg l;obtain⟨w,l⟩:=l;simp only[aT] at w;have G:=beq_iff.1 w.1.2;obtain⟨p,D,l⟩:=LG l;refine⟨_,?_,K9 l⟩;simp_all[WK]
   simp_all
  .split at l
   .split at l
    .replace l:=cg l;obtain⟨w,l⟩:=l;obtain⟨p,D,l⟩:=LG l;refine⟨_,?_,K9 l⟩;simp_all[WK]
    simp_all
   simp_all
 simp_all
theorem P5 {z:St} {t:TypeId} {m K:Operand} {d:Nat} {k:St->Option R} {r:R} (l:WL P C z t m K d k=some r):∃w,N4 P z t m K d=some w/\k w=some r:=by
 unfold WL at l;split at l
 .rename_i S id key k' e N L O D;cases B:Nat.beq id d with
  |true=>simp_all
  |false=>
  rw[B] at l;split at l
  .replace l:=cg l;obtain⟨I,l⟩:=l;simp only[aT] at I;have Q:=beq_iff.1 I.1.2;obtain⟨p,q,l⟩:=Xs l;replace l:=K9 (qK l);obtain⟨_,_,_,_,G,_⟩:=BR D;unfold aeB at q;split at q
   .split at q
    .injection q with q;subst q;simp_all[N4]
    simp_all
   .injection q with q;subst q;simp[N4]
    have:put z.ob id (some (.mr k' e N L O))=z.ob:=by
     funext i;by_cases e:id=i
     .subst e;rw[di,G]
     .rw[bS _ _ e]
    simp_all
   simp_all
  simp_all
 simp_all
def aai {T:Type} {enc:T->AV×List (Nat×Ob)} {c:Option (AV×List (Nat×Ob))} {k:T->Option R} {r:R} (l:MX enc c k=some r):∃d,c=some (enc d)/\k d=some r:=by
 unfold MX at l;split at l
 .obtain⟨d,e,q⟩:=pR l;grind
 simp_all
def aaL {key:Nat} {c:Option (AV×List (Nat×Ob))} {k:AV×List (Nat×Ob)->Option R} {r:R} (l:outC C key c k=some r):∃q,c=some q/\k q=some r:=by
 unfold outC at l;split at l
 .obtain⟨d,w,z⟩:=aai l;simp_all
 simp_all
def Kj {O:St} {key g:Nat} {args:List SV} {N:Nat->Nat} {d:Option Nat} {k:St->Option R} {r:R} (l:Gw C key F O g args N d k=some r):∃z,kF F O g args N d=some z/\k z=some r:=by
 unfold Gw at l;simp only[] at l;obtain⟨I,l⟩:=cg l;split at l
 .rename_i cM K;obtain⟨⟨S,D⟩,L,l⟩:=aaL l;simp only[] at l;obtain⟨w,l⟩:=cg l;split at l
  .rename_i G q;split at l
   .rename_i x;obtain⟨B,l⟩:=cg l;exact⟨_,by simp only[kF,I,aj,K,L,w,q,B],l⟩
   .obtain⟨Q,l⟩:=cg l;simp only[kF,I,K,L,w];simp_all
  simp_all
 simp_all
theorem Sv {D:St} {c:Call} {f:Operand} {d key:Nat} {B:List Nat} {k:St->Option R} {r:R} (q:VA P C h F D c f d key B k=some r):∃l,Db P h F D c f d B=some l/\k l=some r:=by
 unfold VA at q;simp at q;split at q
 .rename_i g pre z N K w;obtain⟨I,q⟩:=cg q;obtain⟨l,L,G⟩:=Kj q;exact⟨_,by simp[Db,K,w,I,aj];omega,G⟩
 simp_all
def MO {K:St} {c:Call} {f:Operand} {d:Option Nat} {k:St->Option R} {r:R} (q:Kl P C h F K c f d k=some r):∃z,iS P h F K c f d=some z/\k z=some r:=by
 unfold Kl at q;split at q
 .rename_i d;split at q
  .grind[Sv,iS]
  rename_i B;split at q
  .rename_i g G vs N w;obtain⟨x,Q,q⟩:=wh q;replace q:=se q;split at q
   .cases S:(xJ h d).isSome with
    |true=>simp_all
    |false=>simp_all[iS]
   .split at q
    .simp_all[iS]
    .rename_i l O I;split at q
     .rename_i U D;obtain⟨L,q⟩:=cg q;rw[I] at w;cases l with
      |nil=>simp_all
      |cons x0 V=>exact⟨_,by simp only[iS,B,I,N,w,Q,D,L,aj],q⟩
     simp_all
    simp_all
   simp_all
  simp_all
 simp_all
def MB {B:St} {t:TypeId} {x:Operand} {d:Nat} {k:St->Option R} {r:R} (l:MA P C B t x d k=some r):∃w,xW P B t x d=some w/\k w=some r:=by
 unfold MA at l;split at l
 .rename_i id U i N K D;split at l
  .rename_i e O q Q S xs V z;obtain⟨G,l⟩:=cg l;obtain⟨zs,L,l⟩:=Oc l;have I:=D7 (qK l);exact⟨_,by simp[xW,K,D,z,L,G,aj],I⟩
  simp_all
 simp_all
def Qw {z:St} {t:TypeId} {id B i q j:Nat} {k:St->Option R} {r:R} (l:W7 P C z t id B i q j k=some r):∃w,IF P z t id B i q j=some w/\k w=some r:=by
 unfold W7 at l;split at l
 .obtain⟨I,l⟩:=cg l;obtain⟨D,l⟩:=gG l;have K:=D7 l;unfold IF;have G :=cQ.mpr D;grind
 simp_all
def QK {o:Oper} {S:St} {k:St->Option R} {r:R} (w:Xl P C h F o S k=some r):∃B,step0 P h F o S=some B/\k B=some r:=by
 have ofF:(wC P C h F o S λv=>k (S.set o.dst v))=some r->∃B,step0 P h F o S=some B/\k B=some r:=λw=>by obtain⟨v,O,I⟩:=Fc w;exact⟨_,by simp only[step0,O],I⟩
 unfold Xl at w;split at w
 .rename_i t l c K;have O:ec P h F o S=none:=by simp[ec,fe,K]
  split at w
  .rename_i d e s kl l' kc c' D hs hl V;split at w
   .rename_i z i hz hi;replace w:=cg w;obtain⟨hb,w⟩:=w;simp only[aT] at hb;obtain⟨G,I⟩:=gG w;have h1:0<s:=by simpa[cQ] using hb.1
    have h2:z.length=s:=beq_iff.1 hb.2;exact⟨_,by simp only[step0,O,ni,D,K,hs,hl,V,hz,hi];rw[aC ⟨h1,h2,G⟩],I⟩
   .cases w
  .cases w
 .rename_i t x y K;have O:ec P h F o S=none:=by simp[ec,fe,K]
  split at w
  .rename_i id sz i off v D hx hy;split at w
   .rename_i e sz' xs n Q hsz;replace w:=cg w;obtain⟨hb,w⟩:=w;simp only[aT] at hb;have h1:=beq_iff.1 hb.1.1;subst h1;have h2:=beq_iff.1 hb.1.2;obtain⟨c,V,w⟩:=NN w;replace w:=cg (DU w);obtain⟨hle,I⟩:=w;refine⟨_,?_,I⟩;simp only[step0,O,ni,D,K,hx,hy,storeAt,Q,hsz,V];rw[aC ⟨trivial,h2,fD hle,hb.2⟩]
   .cases w
  .rename_i id sz i off j D hx hy;obtain⟨B,hs,I⟩:=Qw w;exact⟨B,by simp only[step0,O,ni,D,K,hx,hy];exact hs,I⟩
  .rename_i id off j sz n D hx hy;obtain⟨B,hs,I⟩:=ff w;exact⟨B,by simp only[step0,O,ni,D,K,hx,hy];exact hs,I⟩
  .rename_i a v hn1 hn2 hn3 D hx hy;obtain⟨B,hs,I⟩:=ff w;refine⟨B,?_,I⟩
   have:ni P h F o S=storeAt P t S a v:=by simp only[ni,D,K,hx,hy]
   simp only[step0,O];rw[this];exact hs
  .cases w
 .rename_i t x K;cases Ya:o.dst.any h.take.contains with
  |false=>simp_all
  |true=>
   rw[Ya] at w;simp only[aj] at w;split at w
   .rename_i d D;rw[D] at Ya;simp only[sw] at Ya;obtain⟨B,hs,I⟩:=MB w;refine⟨B,?_,I⟩;have O:ec P h F o S=none:=by simp only[ec,K,D,sw,Ya,aj]
    simp only[step0,O,ni,K,D,Ya,aj];exact hs
   .cases w
 .rename_i c K;split at w
  .rename_i V;have O:ec P h F o S=none:=by
    simp only[ec,K,V,yV]
   split at w
   .rename_i d x y t t' D L U;split at w
    .rename_i e s id sy hs hx hy;split at w
     .rename_i e' sz xs sz' ys i Q hel hi;replace w:=cg w;obtain⟨hb,w⟩:=w;simp only[aT] at hb;obtain⟨⟨⟨⟨⟨⟨b1,b2⟩,b3⟩,b4⟩,b5⟩,b6⟩,b7⟩:=hb;have e1:=beq_iff.1 b1;have e2:=beq_iff.1 b2;have e3:=beq_iff.1 b3;have e4:=beq_iff.1 b4;have e5:0<sz:=by simpa[cQ] using b5
      have e6:i.zero.map (λz=>z.cells.size)=some sz:=by simpa using b6
      obtain⟨G,I⟩:=gG w;refine⟨_,?_,I⟩;simp only[step0,O,ni,K,V,D,L,U,hs,hx,hy,Q,hel,hi];rw[aC ⟨e1,e2,e3,e4,e5,G.1,G.2,e6,b7⟩]
     .rename_i e' sz q e2x s2x xs zs sz' ys i Q hel hi;replace w:=cg w;obtain⟨hb,w⟩:=w;simp only[aT] at hb;obtain⟨⟨⟨⟨⟨⟨⟨b1,b2⟩,b3⟩,b4⟩,b5⟩,b6⟩,b7⟩,b8⟩:=hb;have e1:=beq_iff.1 b1;have e2:=beq_iff.1 b2;have e3:=beq_iff.1 b3;have e4:=beq_iff.1 b4;have e5:0<sz:=by simpa[cQ] using b5
      have e6:i.zero.map (λz=>z.cells.size)=some sz:=by simpa using b6
      obtain⟨G,I⟩:=gG w;refine⟨_,?_,D7 I⟩;simp only[step0,O,ni,K,V,D,L,U,hs,hx,hy,Q,hel,hi];rw[aC ⟨e1,e2,e3,e4,e5,G.1,G.2,e6,b7,b8⟩]
     .cases w
    .rename_i e s id sy hs hx hy;split at w
     .rename_i e' sz xs sz' ys i Q hel hi;replace w:=cg w;obtain⟨hb,w⟩:=w;simp only[aT,gE] at hb;obtain⟨⟨⟨⟨⟨⟨⟨b1,b2⟩,b3⟩,b4⟩,b5⟩,b6⟩,b7⟩,b8⟩:=hb;have e1:=beq_iff.1 b1;have e2:=beq_iff.1 b2;have e3:=beq_iff.1 b3;have e4:=beq_iff.1 b4;have e5:0<sz:=by simpa[cQ] using b5
      have e6:i.zero.map (λz=>z.cells.size)=some sz:=by simpa using b6
      obtain⟨G,I⟩:=gG w;refine⟨_,?_,I⟩;simp only[step0,O,ni,K,V,D,L,U,hs,hx,hy,Q,hel,hi];rw[aC ⟨e1,e2,e3,e4,e5,G.1,G.2,e6,b7,b8⟩]
     .cases w
    .cases w
   .cases w
  .rename_i V;have O:ec P h F o S=none:=by simp only[ec,K,V,yV]
   split at w
   .rename_i m kx t ts D L U;obtain⟨B,h1,I⟩:=GK w;exact⟨B,by simp only[step0,O,ni,K,V,D,L,U];exact h1,I⟩
   .cases w
  .rename_i V;have O:ec P h F o S=none:=by simp only[ec,K,V,yV]
   split at w
   .rename_i x t D L U;split at w
    .rename_i e s id sz lo hi hs hx;split at w
     .rename_i e' sz' xs z Q hz;replace w:=cg w;obtain⟨hb,w⟩:=w;simp only[aT] at hb;obtain⟨⟨⟨⟨b1,b2⟩,b3⟩,b4⟩,b5⟩:=hb;have e1:=beq_iff.1 b1;have e2:=beq_iff.1 b2;have e3:=beq_iff.1 b3;have e4:=beq_iff.1 b4;have e5:0<sz:=by simpa[cQ] using b5
      obtain⟨hle,I⟩:=gG w;refine⟨_,?_,I⟩;simp only[step0,O,ni,K,V,D,L,U,hs,hx,Q,hz];rw[aC ⟨e1,e2,e3,hle,e4,e5⟩]
     .cases w
    .rename_i hs;split at w
     .rename_i B hm;exact⟨B,by simp only[step0,O,ni,K,V,D,L,U,hs];exact hm,w⟩
     simp_all
    .cases w
   .cases w
  .rename_i f V;cases how:o.dst.any h.owns.contains with
   |true=>
    rw[how] at w;simp only[aj] at w;have O:ec P h F o S=none:=by simp only[ec,K,V,how,aj]
    obtain⟨B,h1,I⟩:=MO w;exact⟨B,by simp only[step0,O];cases D:o.dst<;>(simp only[ni,K,V,D];rw[D] at how;rw[how,<-D];exact h1),I⟩
   |false=>
   rw[how] at w;simp only[au] at w;have how0:∀d,o.dst=d->d.any h.owns.contains=false:=λd D=>D▸how
   cases hro:(o.dst.any h.stay.contains&&wide S c f) with
   |true=>rw[hro] at w;exact ofF w
   |false=>
   rw[hro] at w;simp only[au] at w;cases hwd:wide S c f with
   |true=>
    rw[hwd] at w;simp only[aj] at w;have O:ec P h F o S=none:=by simp only[ec,K,V];rw[how,hro,hwd];rfl
    obtain⟨B,h1,I⟩:=I3 w;exact⟨B,by simp only[step0,O];cases D:o.dst<;>(simp only[ni,K,V,D];rw[D] at hro how;rw[how,hro,hwd,<-D];exact h1),I⟩
   |false=>
   have hro0:∀(d:Option Nat),(d.any h.stay.contains&&false)=false:=λd=>by simp
   rw[hwd] at w;simp only[au] at w;cases KQ:c.args.toList.any (λx=>(qb h S x).isSome) with
   |true=>
    rw[KQ] at w;simp only[aj] at w;have O:ec P h F o S=none:=by simp only[ec,K,V];rw[how,hro,KQ];simp
    split at w
    .rename_i g caps vs id hfn hvs;split at w
     .rename_i e sz xs Q;obtain⟨r',xs',hx,w⟩:=VC w;replace w:=qK (se w);have hstep:∀st2,qD P h F S c f o.dst=some st2->step0 P h F o S=some st2:=λst2 h2=>by
       simp only[step0,O];cases D:o.dst<;>(simp only[ni,K,V,D];rw[how0 _ D,hwd,KQ,hro0];simp only[aj,au];rw[<-D];exact h2)
      split at w
      .rename_i n;replace w:=cg w;obtain⟨hb,w⟩:=w;obtain⟨hn,I⟩:=gG w;refine⟨_,hstep _ ?_,I⟩;simp only[qD,hfn,hvs,Q,hx,beq_iff.2 (rfl:e=e),beq_iff.2 (rfl:sz=sz),beq_iff.2 (rfl:10000=10000),sn,aj,hb,og hn]
      .rename_i hns;replace w:=cg w;obtain⟨hb,I⟩:=w;refine⟨_,hstep _ ?_,I⟩;simp only[qD,hfn,hvs,Q,hx,beq_iff.2 (rfl:e=e),beq_iff.2 (rfl:sz=sz),beq_iff.2 (rfl:10000=10000),sn,aj,hb]
     .cases w
    .cases w
   |false=>
   have href0:(wide S c f||c.args.toList.any (λx=>(qb h S x).isSome))=false:=by rw[hwd,KQ];rfl
   rw[KQ] at w;simp only[au] at w;cases hag:c.args.toList.any (x5 S) with
   |true=>rw[hag] at w;exact ofF w
   |false=>
   rw[hag] at w;simp only[au] at w;cases V2:c.args.toList.any (lZ S) with
   |true=>
    simp only[V2,aj] at w;split at w
    .rename_i g caps vs hfn hvs;obtain⟨r',hx,w⟩:=wh w;replace w:=se w;cases hp:(r'.plain&&r'.jT) with
     |true=>simp only[hp,aj] at w;refine⟨_,?_,w⟩;rw[aT] at hp;simp only[step0,ec,K,V];rw[how,hro,href0];simp only[hfn,hvs,hx,hp.1,hp.2,u9,Bool.or_true,gM,aj,au]
     |false=>
      simp only[hp,au] at w;split at w
      .rename_i st1 lW;split at w
       .rename_i g' caps' vs' hfn' hvs';cases hrow:c.args.toList.any (lZ st1) with
        |true=>simp_all
        |false=>
         rw[hrow] at w;simp only[au] at w;obtain⟨r2,hx2,w⟩:=wh w;replace w:=cg (se w);obtain⟨hns,w⟩:=w;refine⟨_,?_,w⟩;have O:ec P h F o S=none:=by simp only[ec,K,V];rw[how,hro,href0];simp only[au,hfn,hvs,hx,hp,V2,dr,sq,lz]
         simp only[step0,O];cases D:o.dst<;>(simp only[ni,K,V,D];rw[how0 _ D,hwd,KQ,hro0];simp only[au,lW,hfn',hvs',hx2,hrow,hns,dr,sq])
       simp_all
      simp_all
    simp_all
   |false=>simp_all
  simp_all
 .rename_i t m kx x K;split at w
  .rename_i D;cases N:q8 h m with
   |true=>rw[N] at w;obtain⟨B,h1,I⟩:=Ip w;exact⟨B,by simp only[step0,ni,ec,fe,K,D];rw[N];exact h1,I⟩
   |false=>rw[N] at w;obtain⟨B,h1,I⟩:=AX w;exact⟨B,by simp only[step0,ni,ec,fe,K,D];rw[N];exact h1,I⟩
  .cases w
 .rename_i t m kx x K;split at w
  .rename_i D;cases N:q8 h m with
   |true=>rw[N] at w;obtain⟨B,h1,I⟩:=Ip w;exact⟨B,by simp only[step0,ni,ec,fe,K,D];rw[N];exact h1,I⟩
   |false=>rw[N] at w;obtain⟨B,h1,I⟩:=AX w;exact⟨B,by simp only[step0,ni,ec,fe,K,D];rw[N];exact h1,I⟩
  .cases w
 .rename_i t m kx ok K;cases N:(q8 h m&& !ok) with
  |true=>rw[N] at w;simp only[aj] at w;have hrm':=N;simp only[aT,gE] at N;obtain⟨hr1,rfl⟩:=N;grind[P5,ec,step0,ni]
  |false=>simp_all
 .grind[step0,ni,ec,fe]
 .rename_i x K;split at w
  .rename_i d id D hx;split at w
   .rename_i s pos Q;have O:ec P h F o S=none:=by simp only[ec,fe,K]
    cases hp:Nat.blt pos s.length with
    |true=>simp_all[step0,ni]
    |false=>
     rw[hp] at w;refine⟨_,?_,w⟩;have hp':¬pos<s.length:=λh=>by grind[Nat.blt_eq]
     simp_all[step0,ni,aA]
   simp_all
  simp_all
 .exact ff w
 .exact ff w
 .exact ff w
 .exact ff w
 .exact ff w
 .exact ff w
 .exact ff w
 simp_all
def Qo {z:St} {t:Nat} {k:St->Option R} {r:R} (l:Qn C z t k=some r):∃q,qY z t=some q/\k q=some r:=by
 unfold Qn at l;split at l
 .split at l
  .obtain⟨w,l⟩:=cg l;obtain⟨D,B,l⟩:=Cs l;refine⟨_,?_,qK l⟩;simp_all[qY,St.dh,Ob.val]
  .exact ff l
 .exact ff l
def BW:∀{l:List Nat} {w:St} {k:St->Option R} {r:R},G0 C l w k=some r->∃z,nR l w=some z/\k z=some r
 |[],w,k,r,q=>⟨w,rfl,q⟩
 |t::l,w,k,r,q=>by obtain⟨B,G,q⟩:=Qo q;obtain⟨D,I,q⟩:=BW q;simp_all[nR]
theorem IT {o:Oper} {w:St} {k:St->Option R} {r:R} (q:stepT P C h F o w k=some r):∃l,step P h F o w=some l/\k l=some r:=by obtain⟨z,D,q⟩:=BW q;obtain⟨B,G,I⟩:=QK q;simp_all[step]
def IW {q:Array Oper} {o:Oper} {w:St} {k:Bool->St->Option R} {r:R} (l:ZC q o w k=some r):∃b,qN q o w=some b/\k b w=some r:=by
 unfold ZC at l;unfold qN;split at l
 .simp_all
 .split at l
  .split at l
   .simp_all
   .exact⟨_,by simp_all,l⟩
   .simp_all
   simp_all
  simp_all
def UL {l:St} {d:Nat} {v:SV} (w:l.env d=some v):l.set (some d) v=l:=by obtain⟨q,z⟩:=l;simp[St.set,St.mk.injEq];grind[di,bS]
theorem Ay {b:Bool} {d:Option Nat} {q:St} {k:St->Option R} {r:R} (l:L2 b d q k=some r):k q=some r:=by unfold L2 at l;cases b with
 |false=>exact l
 |true=>
  simp at l;split at l
  .split at l
   .rename_i t w;cases t with
    |true=>simp_all[UL]
    |false=>simp_all[UL]
   omega
  omega
def Nc {q:Array Oper}:∀{l:List Oper} {i:Nat} {w:St} {k:St->Option R} {r:R},Jw P C h F q i l w k=some r->∃s,rR P h F q l w=some s/\k s=some r:=by intro l;induction l with
 |nil=>intro i w k r z;exact⟨w,rfl,z⟩
 |cons o l D=>intro i w k r z;obtain⟨b,B,z⟩:=IW z;cases b with
  |true=>grind[IT,Ay,rR]
  |false=>grind[rR]
def LR {B:Array Oper}:∀{l:List Oper} {i:Nat} {w:List (Nat×gz)} {z:St} {k:St->Option R} {r:R},B6 P C h F B i l w z k=some r->∃s,kQ P h F B i l w z=some s/\k s=some r:=by intro l;induction l with
 |nil=>intro i w z k r q;exact⟨z,rfl,q⟩
 |cons o l K=>intro i w z k r q;replace q:=IW q;obtain⟨b,O,q⟩:=q;cases b with
  |true=>cases D:(isF h z o&&(FF h o).isEmpty) with
   |true=>simp[D] at q;obtain⟨v,S,q⟩:=Fc q;obtain⟨G,q⟩:=cg q;obtain⟨s,L,I⟩:=K (Ay q);simp_all[kQ]
   |false=>simp[D] at q;obtain⟨Q,N,q⟩:=IT q;obtain⟨G,q⟩:=cg q;obtain⟨s,L,I⟩:=K (Ay q);exact⟨s,by simp[kQ,O,aj,D,au,N,G];omega,I⟩
  |false=>obtain⟨G,q⟩:=cg q;simp_all[kQ]
theorem Ph {w:Type} (m:Nat->Option w):∀(l:List Nat) (i:Nat),find (vK m l) i=if i∈l then m i else none:=by intro l;induction l with
 |nil=>intro i;rfl
 |cons j l D=>intro i;simp[vK];cases B:m j with
  |none=>grind
  |some v=>simp only[find];cases z:Nat.beq j i with
   |true=>simp_all
   |false=>
    have q:¬i=j:=λe=>by simp_all
    simp_all
def SC (h:Hint) (key:Nat) (l:St):h.canon key (h.canon key l)=h.canon key l:=by
 unfold Hint.canon;split
 .grind[St.mk.injEq,Ph]
 .rfl
def KZ {key:Nat} {f:St->Option (Ex×St)} {n:Nat} {l:St}:iter h key f n (h.canon key l)=iter h key f n l:=by cases n with
 |zero=>rfl
 |succ n=>simp[iter,SC]
def aav {c:Code} {n m:Nat} (B:n<=m) {key:Nat}:∀(q:Nat) {l:Nat} {z:St} {x:Ex×St},q<=l->iter h key (exec P h F n c) q z=some x->iter h key (exec P h F m c) l z=some x:=by intro q;induction q with
 |zero=>simp_all[iter]
 |succ q I=>
  intro l z x D G;obtain⟨w,rfl⟩:∃w,l=w+1:=⟨l-1,af⟩
  grind[iter,tM]
def yL {c:Code} {z:St} {k:Ex->St->Option R} {r:R}:KY P h F c z k=some r↔∃n e l,exec P h F n (.loop c) z=some (e,l)/\k e l=some r:=by
 constructor
 .intro w;unfold KY at w;split at w
  .grind
  simp_all
 .rintro⟨n,e,l,q,G⟩;unfold KY;have B:∃x n,exec P h F n _ _=some x:=⟨_,n,q⟩
  obtain⟨m,I⟩:=B.choose_spec;have D:=tM (vf n m) q;grind[tM,Nat.le_max_right]
theorem uc:∀{l:List Nat} {B:St} {k:St->Option R} {r:R},CF C l B k=some r->∃w,Ap l B=some w/\k w=some r
 |[],B,k,r,q=>⟨B,rfl,q⟩
 |id::l,B,k,r,q=>by
  simp[CF] at q;split at q
  .replace q:=cg q;obtain⟨z,q⟩:=q;obtain⟨xs,I,q⟩:=Cs q;obtain⟨w,D,G⟩:=uc (aez q);simp_all[Ap,St.LC,St.dh,Ob.val]
  .replace q:=cg q;obtain⟨z,q⟩:=q;obtain⟨L,K,q⟩:=Cs q;obtain⟨w,D,G⟩:=uc (qK q);simp_all[Ap,St.LC,St.dh,Ob.val]
  .split at q
   .obtain⟨w,D,G⟩:=uc q;simp_all[Ap]
   simp_all
def Us {id:Nat} {w:St} {k:St->Option R} {r:R} (q:ae0 C h id w k=some r):∃l,h.aeZ id w=some l/\k l=some r:=by
 unfold ae0 at q;unfold Hint.aeZ;split at q
 .grind[uc]
 simp_all
def HT:∀(c:Code) {w:St} {k:Ex->St->Option R} {r:R},tu P C h F c w k=some r->∃n e O,exec P h F n c w=some (e,O)/\k e O=some r:=by intro c;induction c with
 |skip=>intro w k r q;exact⟨0,_,_,rfl,q⟩
 |label l=>intro w k r q;exact⟨0,_,_,rfl,q⟩
 |exit id=>intro w k r q;exact⟨0,_,_,rfl,q⟩
 |ret=>intro w k r q;exact⟨0,_,_,rfl,q⟩
 |region id ops I=>intro w k r q;simp only[tu] at q;obtain⟨Q,L,q⟩:=Us q;cases I with
  |true=>simp only[aj] at q;obtain⟨hs,q⟩:=cg q;obtain⟨s,V,K⟩:=LR q;exact⟨0, .normal,s,by simp_all[exec,gZ,aj,ey],K⟩
  |false=>simp only[au] at q;obtain⟨s,V,K⟩:=Nc q;exact⟨0, .normal,s,by simp[exec,L,V],K⟩
 |seq x y D G=>
  intro w k r q;simp only[tu] at q;cases B:find h.blk (fG x) with
  |some z=>simp[B] at q;obtain⟨hg,q⟩:=gG q;exact⟨0,_,_,by simp_all[exec],q⟩
  |none=>
  simp[B] at q;obtain⟨n,e,Q,N,q⟩:=D q;cases e with
  |normal=>obtain⟨m,e2,st2,hy,K⟩:=G (q);exact⟨max n m,e2,_,by grind[exec,tM,Nat.le_max_right],K⟩
  |exit id=>exact⟨n,_,_,by simp[exec,B,N],q⟩
  |ret=>exact⟨n,_,_,by simp[exec,B,N],q⟩
 |cond c x y D G=>
  intro w k r q;simp[tu] at q;split at q
  .rename_i t hc;cases t with
   |true=>simp_all[exec]
   |false=>simp_all[exec]
  simp_all
 |block id c S=>intro w k r q;obtain⟨n,e,Q,N,q⟩:=S q;cases e with
  |normal=>exact⟨n,_,_,by simp[exec,N],q⟩
  |ret=>exact⟨n,_,_,by simp[exec,N],q⟩
  |exit j=>simp[Vu] at q;cases U:Nat.beq j id with
   |true=>simp[U] at q;exact⟨n,_,_,by simp_all[exec],q⟩
   |false=>simp[U] at q;exact⟨n,_,_,by simp_all[exec],q⟩
 |loop c S=>simp_all[tu,yL,exec,KZ]
 |scope c S=>assumption
 |rangeFunc f ps x y D G=>simp_all[tu]
 |goto l=>simp_all[tu]
 |refuse s=>simp_all[tu]
theorem TE {c:Code} {B:St} {k:Ex->St->Option R} {r:R} (G:tu P C h F c (h.canon (fG c) B) (Vk P h F c k)=some r):KY P h F c B k=some r:=by obtain⟨n,e,I,w,l⟩:=HT c G;cases e with
 |normal=>obtain⟨m,D,K,z,q⟩:=yL.1 (l);simp[exec,KZ] at z;refine yL.2 ⟨max n m+1,D,_,?_,q⟩;simp[exec,iter];rw[tM (show n<=max n m+1 by omega) w];exact aav (show m<=max n m+1 by omega) m af z
 |exit j=>refine yL.2 ⟨n+1,_,_,?_,l⟩;simp[exec,iter];rw[tM (show n<=n+1 by omega) w]
 |ret=>refine yL.2 ⟨n+1,_,_,?_,l⟩;simp[exec,iter];rw[tM (show n<=n+1 by omega) w]
end
section
variable {P:Program} {C:mj} {H:Nat->Hint} {gT:eX}
def rC {f:Nat} {args:List SV} {cM:List (Nat×Ob)} {r:AV×List (Nat×Ob)} (D:gT f args cM=none) (l:abM P C H gT f args cM=some r):run P H gT f args cM=some r:=by
 unfold abM at l;split at l
 .rename_i fn B;split at l
  .rename_i c q;obtain⟨w,l⟩:=cg l;obtain⟨n,e,I,G,z⟩:=HT c l;exact IK D B q w G z
  simp_all
 simp_all
def kS {f key:Nat} {names:List Nat} {l:List (Nat×SV)} {q:List (Nat×Ob)} {r:AV×List (Nat×Ob)} (w:Xh P C H gT f key names l q=some r):yK P C H gT f key names l q=some r:=by grind[Xh,yK,TE]
end
section
variable {R:Type}
def b9 {p:Prop} [Decidable p] (l:p) (x:Option R):check p x=x:=by unfold check;simp_all
def KK {l:Type} {xs:List l} {i:Int} {x:l} (q:0<=i) (w:xs[i.toNat]? =some x) (k:l->Option R):bp xs i k=k x:=by simp_all[bp]
def jd {l:Type} {xs:List l} {i:Nat} {x:l} (q:xs[i]? =some x) (k:l->Option R):bp xs (i:Int) k=k x:=KK af (by assumption) k
def iE {l:Type} {xs:List l} {i:Nat} {x:l} (q:xs[i]? =some x) (k:l->Option R):ef xs i k=k x:=by unfold ef;rw[q]
def ZW {c:Option (AV×List (Nat×Ob))} {r:AV} (l:c=some (r,[])) (k:AV->Option R):yE c k=k r:=by subst l;unfold yE;rfl
def ZY {c:Option (AV×List (Nat×Ob))} {l e q:Nat} {r:AV} {xs:List (List AV)} (w:c=some (r,[(l, .row e q xs)])) (k:AV->List (List AV)->Option R):HR c l e q k=k r xs:=by simp_all[HR]
def asE_pos {l T:Type} {enc:T->l} (inj:∀a b,enc a=enc b->a=b) (d:T) (k:T->Option R):sj enc (enc d) k=k d:=by
 unfold sj;have q:∃x,enc x=enc d:=⟨d,rfl⟩
 grind
end
