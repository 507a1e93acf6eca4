/- Build. -/
import Derived.Test.YthphfjcnkinkpaaGreatDoorClWa
set_option linter.all false
namespace Go.Proofs.YthphfjcnkinkpaaGreatDoor.cl.pf
open Go Go.AM
def RM {U V W X:Type} (x:Option (U×V×W×X)):(mJ x λa b c d=>some (a,b,c,d))=x:=by cases x with
 |none=>rfl
 |some x=>rfl
def qO {U V W X:Type} {x:Option (U×V×W)} {t:X} {a:U} {b:V} {c:W} (h:x=some (a,b,c)):(eM x λa b c=>some (a,b,t,c))=some (a,b,t,c):=by rw[h];rfl
def RE (T F:Nat) (t:List Template):Prop:=∀x∈t,Can T F x.gZ/\x.gZ.au.length<=4096
abbrev eC (h:aK) (p:List Int) (i:Nat):List Int:=p++List.replicate i (fC h oz)
abbrev mo (h:aK) (p:List Int):List Int:=p++[fC h AP]
section
variable (h:aK) (t:List Template) (sb:Int->Int->Prop) (C:FSt) (ρ:cn->Nat)
def L3 (s:cn) (p:List Int):Prop:=Jf sb p ⟨[⟨jC h s,[]⟩]⟩ C
mutual
def Sat:bI->List Int->Prop
 | .mk op nm ph ks,p=>
  if op=1 then L3 h sb C nm p
  else if op=2 then∃(i:Nat) (x:Template),tpos t nm=(i:Int)/\t[i]? =some x/\Jf sb p x.gZ C
  else if op=3 then oW C p=some (ρ nm)
  else if op=4 then vH ks p
  else if op=5 then vH ks (p++ph.map (fC h))
  else if op=6 then Di ks p/\L3 h sb C ua (eC h p ks.length)
  else if op=7 then Opn ks p
  else L3 h sb C qX p/\Di ks (mo h p)/\L3 h sb C rG (eC h (mo h p) ks.length)/\EqS (eC h (mo h p) ks.length) (p++[fC h qv]) C
def vH:List bI->List Int->Prop
 |[],_=>True
 |x::l,p=>Sat x p/\vH l p
def Di:List bI->List Int->Prop
 |[],_=>True
 |x::l,p=>L3 h sb C xx p/\Sat x (p++[fC h mY])/\Di l (p++[fC h oz])
def Opn:List bI->List Int->Prop
 |[],_=>True
 |x::l,p=>(l=[]/\Sat x p)\/(l≠[]/\L3 h sb C xx p/\Sat x (p++[fC h mY])/\Opn l (p++[fC h oz]))
end
variable {h t sb C ρ}
theorem oT {d:bI} {p:List Int}:Sat h t sb C ρ d p=(if d.Op=1 then L3 h sb C d.Name p
  else if d.Op=2 then∃(i:Nat) (x:Template),tpos t d.Name=(i:Int)/\t[i]? =some x/\Jf sb p x.gZ C
  else if d.Op=3 then oW C p=some (ρ d.Name)
  else if d.Op=4 then vH h t sb C ρ d.Kids p
  else if d.Op=5 then vH h t sb C ρ d.Kids (p++d.Path.map (fC h))
  else if d.Op=6 then Di h t sb C ρ d.Kids p/\L3 h sb C ua (eC h p d.Kids.length)
  else if d.Op=7 then Opn h t sb C ρ d.Kids p
  else L3 h sb C qX p/\Di h t sb C ρ d.Kids (mo h p)/\L3 h sb C rG (eC h (mo h p) d.Kids.length)/\EqS (eC h (mo h p) d.Kids.length) (p++[fC h qv]) C):=by
 cases d;rw[Sat];rfl
theorem KW {p:List Int} {i:Nat}:eC h p (i+1)=eC h p i++[fC h oz]:=by rw[eC,eC,qa,ef]
theorem KV {p:List Int} {i:Nat}:eC h p (i+1)=eC h (p++[fC h oz]) i:=by rw[eC,eC,mb,ef];rfl
theorem KH {x:bI}:∀{l:List bI} {p:List Int},Opn h t sb C ρ (l++[x]) p↔Di h t sb C ρ l p/\Sat h t sb C ρ x (eC h p l.length)
 |[],p=>by rw[dQ,Opn,Di];simp[Opn,eC]
 |y::l,p=>by rw[gC,Opn,Di,KH (l:=l),bD,KV];simp[rQ]
end
def Sim (T F:Nat) (sb:Int->Int->Prop) (t u:List Template) (P:FSt->(cn->Nat)->Prop) (A:List Node) (G:List (cn×List Int)) (n k:Nat) (z:Option (List Node×Bool×List Template×List tag)) (w:Option (Bool×List Node×List (cn×List Int))):Prop:=
 (∃B tg q,z=some (B,true,t,tg)/\(HZ t u->w=some (true,B,q))/\Can T F ⟨B⟩/\B.length+400<=n/\AR F tg q/\tg.length<=k/\Sem T F sb P A G B q)\/
 (∃B tg D q,z=some (B,false,t,tg)/\(HZ t u->w=some (false,D,q))/\tg.length<=k/\Il T F sb P A G)
def Off (t:List Template) (k:Nat) (A:List Node) (q:Option (List Node×Bool×List Template×List tag)):Prop:=
 ∃tg,q=some (A,false,t,tg)/\tg.length<=k
def DV (h:aK) (T F:Nat) (sb:Int->Int->Prop) (t u:List Template) (d:bI):Prop:=∀p,iX F p->p.length+14 *jH d<=200->
 (∀A tg q,Can T F ⟨A⟩->A.length+5000 *jH d<=139400->tg.length+jH d<=1000->AR F tg q->
  Sim T F sb t u (λC ρ=>Sat h t sb C ρ d p) A q (A.length+5000 *jH d) (tg.length+jH d) (kV h A true p d t tg) (oK d p h.Types h.bC u A q))/\
 ∀A tg,tg.length+jH d<=1000->Off t (tg.length+jH d) A (kV h A false p d t tg)
def Bw (d:bI):1<=jH d:=by rw[F4];omega
def rz {x:bI}:∀{l:List bI},x∈l->jH x<=dL l
 |y::l,h=>by
  rw[dL];rcases aS.1 h with rfl|h
  .omega
  .have:=rz h;omega
section
variable {h:aK} {T F:Nat} {sb:Int->Int->Prop} {bQ:Int->Int} {val:Int->Int->Int} (H:HX h T F sb bQ val) (hT:T<=1000) (hF:F<=300) {t u:List Template} (ht:t.length<=1000) (hs:RE T F t)
section
variable {p:List Int} (hp:iX F p) {d:bI} (hl:d.Kids.length<=256) (ih:∀k∈d.Kids,DV h T F sb t u k)
include hp hl ih
theorem o_and {o:state}:∀(xs:List bI) (i:Nat) (A:List Node) (tg:List tag),d.Kids.drop i=xs->(∀x∈xs,p.length+14 *jH x<=200)->tg.length+dL xs<=1000->
  Off t (tg.length+dL xs) A (wE p d.Kids.length i h A false d o t tg):=by
 intro xs;induction xs with
 |nil=>intro i A tg q _ _;exact⟨tg,yx (by rw[aW q,aA]),af⟩
 |cons x xs D=>
  intro i A tg q w B;simp only[dL] at B⊢;have K:=w x ai;have z:∀y∈xs,p.length+14 *jH y<=200:=λy O=>w y (by simp[O])
  obtain⟨G,N,Q⟩:=(ih x (aR (bV q)) p hp af).2 A tg af;obtain⟨I,P,R⟩:=D (i+1) A G (aH q) z af;exact⟨I,yx (by rw[aP q,ak,aJ q,N,cF,aN q af];exact P),af⟩
theorem s_and {o:state}:∀(xs:List bI) (i:Nat) (A:List Node) (tg:List tag) (K:List (cn×List Int)),d.Kids.drop i=xs->(∀x∈xs,p.length+14 *jH x<=200)->Can T F ⟨A⟩->A.length+5000 *dL xs<=139400->tg.length+dL xs<=1000->AR F tg K->
  (∃B z G,wE p d.Kids.length i h A true d o t tg=some (B,true,t,z)/\(HZ t u->CE d.Kids d.Kids.length i p h.Types h.bC u A K=some (-1,B,G))/\Can T F ⟨B⟩/\B.length<=A.length+5000 *dL xs/\AR F z G/\z.length<=tg.length+dL xs/\Sem T F sb (λC ρ=>vH h t sb C ρ xs p) A K B G)\/
  (∃B z C G v,wE p d.Kids.length i h A true d o t tg=some (B,false,t,z)/\(HZ t u->CE d.Kids d.Kids.length i p h.Types h.bC u A K=some (v,C,G))/\0<=v/\z.length<=tg.length+dL xs/\Il T F sb (λC ρ=>vH h t sb C ρ xs p) A K):=by
 intro xs;induction xs with
 |nil=>intro i A tg K w _ hA _ _ hr;exact .inl ⟨A,tg,K,yx (by rw[aW w,aA]),λ_=>IF (by rw[aW w,aA]),hA,by omega,hr,by omega,Sem.nil.cg λC ρ=>by rw[vH]⟩
 |cons x xs ihx=>
  intro i A tg K w S hA hAx htx hr;simp only[dL] at hAx htx⊢;have hpx1:=S x ai;have P:∀y∈xs,p.length+14 *jH y<=200:=λy hy=>S y (by simp[hy])
  have hx1:=Bw x;have ec:∀C ρ,(Sat h t sb C ρ x p/\vH h t sb C ρ xs p)↔vH h t sb C ρ (x::xs) p:=λC ρ=>by rw[vH]
  rcases(ih x (aR (bV w)) p hp af).1 A tg K hA af af hr with⟨B,R,O,V,g3,gc,gl,gr,gt,gs⟩|⟨B,R,C,O,V,g3,gt,gs⟩
  .have q:HZ t u->abn x p h.Types h.bC u A K=some (false,B,O):=λN=>e557a (by rw[g3 N,bG];rfl)
   rcases ihx (i+1) B R O (aH w) P gc af af gr with⟨D,I,Q,U,j3,jc,jl,jr,jt,js⟩|⟨D,I,C,Q,v,U,j3,jv,jt,js⟩
   .refine .inl ⟨D,I,Q,yx ?_,λN=>IF ?_,jc,by omega,jr,by omega,(gs.comp js).cg ec⟩
    .rw[aP w,ak,aJ w,V,cF,aN w af];exact U
    .rw[aP w,ak,aJ w,q N,bG,aA,aN w af];exact j3 N
   .refine .inr ⟨D,I,C,Q,v,yx ?_,λN=>IF ?_,jv,by omega,(Il.after gs js).imp λC ρ=>(ec C ρ).2⟩
    .rw[aP w,ak,aJ w,V,cF,aN w af];exact U
    .rw[aP w,ak,aJ w,q N,bG,aA,aN w af];exact j3 N
  .obtain⟨I,U,jt⟩:=o_and hp hl ih (o:=o) xs (i+1) B R (aH w) P af;refine .inr ⟨B,I,C,O,i,yx ?_,λN=>IF ?_,by omega,by omega,gs.imp λC ρ a=>((ec C ρ).2 a).1⟩
   .rw[aP w,ak,aJ w,V,cF,aN w af];exact U
   .rw[aP w,ak,aJ w,e557a (by rw[g3 N,bG]),bG];rfl
end
section
include H hF
theorem h508p {d:bI} (hl:d.Path.length<=64) {A:List Node} {ok:Bool} {o:state} {tg:List tag}:∀(xs:List cn) (i:Nat) (p:List Int),d.Path.drop i=xs->p.length<=1000+i->
  ∀r,(bf d.Kids 0 λx=>kV h A ok (p++xs.map (fC h)) x t tg)=some r->FD i h A ok d o p t tg=some r:=by
 have z:=H.hv.fl;intro xs;induction xs with
 |nil=>intro i p q _ r w;simp only[fI,dF] at w;refine S7 ?_;rw[aW q,aA];simp only[RM];exact w
 |cons x xs ih=>intro i p q hp r w;have B:=dN q;rw[bS,List.append_cons] at w;refine S7 ?_;rw[aP q,ak,aJ q,yh _ _ af,aj,cC _ af ai af,aN q af];exact ih (i+1) (p++[fC h x]) (aH q) aI r w
theorem Cs {s:cn} (q:0<=fC h s):0<=fC h s/\fC h s<(F:Int):=by
 have:fC h s<(h.bC.length:Int):=(IN _ _).1
 have:=H.hv.fl;exact⟨q,af⟩
end
section
include H hT hF
variable (L:LT h) {p:List Int} (hp:iX F p) {l:List bI} (hl:l.length<=12) (ih:∀k∈l,DV h T F sb t u k)
include L hp in
theorem BY (i:Nat):iX F (eC h p i):=hp.app (iX.rep (Cs H hF L.re))
include L hp hl ih
theorem Np {o:state}:∀(xs:List bI) (i:Nat) (A:List Node) (tg:List tag),l.drop i=xs->(∀x∈xs,p.length+13+14 *jH x<=200)->tg.length+dL xs<=1000->
  Off t (tg.length+dL xs) A (vt p l i h A false o t tg):=by
 have P:=H.hv.fl;intro xs;induction xs with
 |nil=>intro i A tg q _ _;exact⟨tg,zO (by rw[aW q,aA]),af⟩
 |cons x xs D=>
  intro i A tg q w B;have U:=dN q;simp only[dL] at B⊢;have K:=w x ai;have z:∀y∈xs,p.length+13+14 *jH y<=200:=λy Q=>w y (by simp[Q])
  have N:f521 p (fC h oz) (i:Int)=some (eC h p i):=N7 af;have c2:f521 (eC h p i) (fC h mY) 1=some (eC h p i++[fC h mY]):=N7 (n:=1) aI;obtain⟨G,O,S⟩:=(ih x (aR (bV q)) (eC h p i++[fC h mY]) ((BY H hT hF L hp i).app (iX.rep (n:=1) (Cs H hF L.fi))) aI).2 A tg af;obtain⟨I,R,V⟩:=D (i+1) A G (aH q) z af;refine⟨I,zO ?_,af⟩;rw[aP q,ak,yh _ _ af,aj,N,aj,Tz H hT,bG,yh _ _ af,aj,c2,aj,aJ q,O,cF,aN q af];exact R
theorem ad2 {o:state}:∀(xs:List bI) (i:Nat) (A:List Node) (tg:List tag) (w:List (cn×List Int)),l.drop i=xs->(∀x∈xs,p.length+13+14 *jH x<=200)->Can T F ⟨A⟩->A.length+5000 *dL xs<=139100->tg.length+dL xs<=1000->AR F tg w->
  (∃B G K,vt p l i h A true o t tg=some (B,true,t,G)/\(HZ t u->CD (eC h p i) l l.length i h.Types h.bC u A w=some ((eC h p (i+xs.length),true),B,K))/\Can T F ⟨B⟩/\B.length<=A.length+5000 *dL xs/\AR F G K/\G.length<=tg.length+dL xs/\Sem T F sb (λC ρ=>Di h t sb C ρ xs (eC h p i)) A w B K)\/
  (∃B G C K,vt p l i h A true o t tg=some (B,false,t,G)/\(HZ t u->CD (eC h p i) l l.length i h.Types h.bC u A w=some (([],false),C,K))/\G.length<=tg.length+dL xs/\Il T F sb (λC ρ=>Di h t sb C ρ xs (eC h p i)) A w):=by
 have hfl:=H.hv.fl;have SN:=H.tl;intro xs;induction xs with
 |nil=>intro i A tg w q _ hA _ _ hr;exact .inl ⟨A,tg,w,zO (by rw[aW q,aA]),λ_=>EM (by rw[aW q,aA];rfl),hA,by omega,hr,by omega,Sem.nil.cg λC ρ=>by rw[Di]⟩
 |cons x xs ihx=>
  intro i A tg w q V hA hAx htx hr;have hi:=dN q;simp only[dL] at hAx htx⊢;have hpx1:=V x ai;have I:∀y∈xs,p.length+13+14 *jH y<=200:=λy hy=>V y (by simp[hy])
  have hx1:=Bw x;have hq:=BY H hT hF L hp i;have hql:(eC h p i).length=p.length+i:=ai;have hxi:=ih x (aR (bV q)) (eC h p i++[fC h mY]) (hq.app (iX.rep (n:=1) (Cs H hF L.fi))) aI;have c0:f352 (aK.mk h.Types h.bC) xx=some (jC h xx):=Y6 _ h af;have c1:f521 p (fC h oz) (i:Int)=some (eC h p i):=N7 af;have c2:f521 (eC h p i) (fC h mY) 1=some (eC h p i++[fC h mY]):=N7 (n:=1) af;have m1:∀A w,Bz (eC h p i) [mY] h.Types h.bC u A w=some (eC h p i++[fC h mY],A,w):=λA w=>aaT af ai af
  have m2:∀A w,Bz (eC h p i) [oz] h.Types h.bC u A w=some (eC h p (i+1),A,w):=λA w=>by rw[aaT af ai af,KW];rfl
  have el:i+1+xs.length=i+(x::xs).length:=aI;have U:∀C ρ,(L3 h sb C xx (eC h p i)/\Sat h t sb C ρ x (eC h p i++[fC h mY])/\Di h t sb C ρ xs (eC h p (i+1)))↔Di h t sb C ρ (x::xs) (eC h p i):=λC ρ=>by rw[Di,KW]
  rcases ad3 H hT hF hA L.co hq af u tg w with⟨B,j1,j2,j3,j4,j5⟩|⟨B,j1,j2,j5⟩
  .rcases hxi.1 B tg w j3 af af hr with⟨C,N,Q,S,g3,gc,gl,gr,gt,gs⟩|⟨C,N,D,Q,S,g3,gt,gs⟩
   .rcases ihx (i+1) C N Q (aH q) I gc af af gr with⟨D,z,R,P,k3,kc,kl,kr,kt,ks⟩|⟨D,z,E,R,P,k3,kt,ks⟩
    .refine .inl ⟨D,z,R,zO ?_,λO=>EM ?_,kc,by omega,kr,by omega,(j5.comp (gs.comp ks)).cg U⟩
     .rw[aP q,ak,yh _ _ af,aj,c1,aj,j1,bG,yh _ _ af,aj,c2,aj,aJ q,S,cF,aN q af];exact P
     .rw[aP q,ak,aJ q,c0,aj,j2,bG,cond_neg (by rfl),m1,bG,g3 O,bG,cond_neg (by rfl),m2,bG,aN q af,<-el];exact k3 O
    .refine .inr ⟨D,z,E,R,zO ?_,λO=>EM ?_,by omega,(Il.after j5 (Il.after gs ks)).imp λC ρ=>(U C ρ).2⟩
     .rw[aP q,ak,yh _ _ af,aj,c1,aj,j1,bG,yh _ _ af,aj,c2,aj,aJ q,S,cF,aN q af];exact P
     .rw[aP q,ak,aJ q,c0,aj,j2,bG,cond_neg (by rfl),m1,bG,g3 O,bG,cond_neg (by rfl),m2,bG,aN q af];exact k3 O
   .obtain⟨z,P,kt⟩:=Np H hT hF L hp hl ih (o:=o) xs (i+1) C N (aH q) I af;refine .inr ⟨C,z,D,Q,zO ?_,λO=>EM ?_,by omega,(Il.after j5 gs).imp λC ρ a=>⟨((U C ρ).2 a).1,((U C ρ).2 a).2.1⟩⟩
    .rw[aP q,ak,yh _ _ af,aj,c1,aj,j1,bG,yh _ _ af,aj,c2,aj,aJ q,S,cF,aN q af];exact P
    .rw[aP q,ak,aJ q,c0,aj,j2,bG,cond_neg (by rfl),m1,bG,g3 O,bG,cond_pos (by rfl)]
  .obtain⟨N,S,gt⟩:=hxi.2 B tg af;obtain⟨z,P,kt⟩:=Np H hT hF L hp hl ih (o:=o) xs (i+1) B N (aH q) I af;refine .inr ⟨B,z,A,w,zO ?_,λO=>EM ?_,by omega,j5.imp λC ρ a=>((U C ρ).2 a).1⟩
   .rw[aP q,ak,yh _ _ af,aj,c1,aj,j1,bG,yh _ _ af,aj,c2,aj,aJ q,S,cF,aN q af];exact P
   .rw[aP q,ak,aJ q,c0,aj,j2,bG,cond_pos (by rfl)]
end
end
end Go.Proofs.YthphfjcnkinkpaaGreatDoor.cl.pf
namespace Go.Proofs.YthphfjcnkinkpaaGreatDoor.cl.pf
open Go Go.AM
structure Gd (h:aK) (t:List Template) (d:bI):Prop where
 fm:Fm d
 kl:d.Kids.length<=12
 pl:d.Path.length<=4
 kn:Kn h t d
theorem MO:∀(l m:List bI),dL (l++m)=dL l+dL m
 |[],m=>by simp[dL]
 |x::l,m=>by simp[gC,dL,MO l m];omega
def JH {l:List bI} {n:Nat} (h:l.length=n+1):dL l=dL (l.take n)+jH (l[n]'(by omega)):=by grind[List.take_append_drop,List.drop_eq_getElem_cons,dL,MO]
section
variable {h:aK} {T F:Nat} {sb:Int->Int->Prop} {bQ:Int->Int} {val:Int->Int->Int} (H:HX h T F sb bQ val) (hT:T<=1000) (hF:F<=300) {t u:List Template} (ht:t.length<=1000) (hs:RE T F t)
include H hT hF ht
section
variable {d:bI} {p:List Int} (hp:p.length<=200) {A:List Node} {ok:Bool} {tg:List tag}
include hp
theorem fin6 (Q:d.Op=6) (R:d.Kids.length<=12) {z B:List Node} {D G:Bool} {q w:List tag} (N:vt p d.Kids (0:Nat) h A ok ⟨⟨[]⟩,false,[]⟩ t tg=some (z,D,t,q)) (O:f517 h z D (eC h p d.Kids.length) ua q=some (B,G,w)):
  kV h A ok p d t tg=some (B,G,t,w):=by
 have P:=H.hv.fl;have I:f521 p (fC h oz) (d.Kids.length:Int)=some (eC h p d.Kids.length):=N7 af;have K:=abb N;refine CT ?_;rw[Q,cond_neg (by rfl),cond_neg (by rfl),cond_neg (by rfl),cond_neg (by rfl),cond_neg (by rfl),cond_pos (by rfl),K,cF,yh _ _ af,aj,I,aj];exact qO O
theorem fin7 (R:d.Op=7) {n:Nat} (Q:d.Kids.length=n+1) (S:n<=12) {z B:List Node} {D G:Bool} {q w:List tag} (N:vt p (d.Kids.take n) (0:Nat) h A ok ⟨⟨[]⟩,false,[]⟩ t tg=some (z,D,t,q)) (O:kV h z D (eC h p n) (d.Kids[n]'(by omega)) t q=some (B,G,t,w)):
  kV h A ok p d t tg=some (B,G,t,w):=by
 have P:=H.hv.fl;have I:f521 p (fC h oz) (n:Int)=some (eC h p n):=N7 af;have K:=abb N;refine CT ?_;rw[R,cond_neg (by rfl),cond_neg (by rfl),cond_neg (by rfl),cond_neg (by rfl),cond_neg (by rfl),cond_neg (by rfl),cond_pos (by rfl),Q,oF af,bT ⟨af,af⟩,aT,nR,K,cF,yh _ _ af,aj,I,aj,bU af,RM];exact O
theorem Zn (ho:d.Op=8) (hk:d.Kids.length<=12) {z B D G:List Node} {I K N O:Bool} {q w:List tag} (S:f517 h A ok p qX tg=some (z,I,tg)) (U:vt (mo h p) d.Kids (0:Nat) h z I ⟨⟨[]⟩,false,[]⟩ t tg=some (B,K,t,q)) (V:f517 h B K (eC h (mo h p) d.Kids.length) rG q=some (D,N,q)) (g4:f522 h D N (eC h (mo h p) d.Kids.length) (p++[fC h qv]) q=some (G,O,w)):
  kV h A ok p d t tg=some (G,O,t,w):=by
 have hfl:=H.hv.fl;have P:f521 (mo h p) (fC h oz) (d.Kids.length:Int)=some (eC h (mo h p) d.Kids.length):=N7 aI;have c2:f521 p (fC h AP) 1=some (mo h p):=N7 (n:=1) af;have Q:f521 p (fC h qv) 1=some (p++[fC h qv]):=N7 (n:=1) af;have R:=abb U;refine CT ?_;rw[ho,cond_neg (by rfl),cond_neg (by rfl),cond_neg (by rfl),cond_neg (by rfl),cond_neg (by rfl),cond_neg (by rfl),cond_neg (by rfl),S,bG,yh _ _ af,aj,c2,aj,R,cF,yh _ _ af,aj,P,aj,V,bG,yh _ _ af,aj,Q,aj];exact qO g4
end
include hs
theorem and_ok {d:bI} {p:List Int} (hp:iX F p) (U:d.Op=4) (hkl:d.Kids.length<=256) (ih:∀k∈d.Kids,DV h T F sb t u k) (K:∀x∈d.Kids,p.length+14 *jH x<=200):
  (∀A tg z,Can T F ⟨A⟩->A.length+5000 *dL d.Kids<=139400->tg.length+dL d.Kids<=1000->AR F tg z->
   Sim T F sb t u (λC ρ=>Sat h t sb C ρ d p) A z (A.length+5000 *dL d.Kids+400) (tg.length+dL d.Kids) (kV h A true p d t tg) (oK d p h.Types h.bC u A z))/\
  ∀A tg,tg.length+dL d.Kids<=1000->Off t (tg.length+dL d.Kids) A (kV h A false p d t tg):=by
 have V:∀C ρ,vH h t sb C ρ d.Kids p↔Sat h t sb C ρ d p:=λC ρ=>by rw[oT,az af,az af,az af,aB U]
 have w:∀{A ok tg B b I},wE p d.Kids.length (0:Nat) h A ok d ⟨⟨[]⟩,false,[]⟩ t tg=some (B,b,t,I)->kV h A ok p d t tg=some (B,b,t,I):=λ{A ok tg B b I} N=>by refine CT ?_;rw[U,cond_neg (by rfl),cond_neg (by rfl),cond_neg (by rfl),cond_pos (by rfl)];exact N
 refine⟨λA tg z hA hAx R N=> ?_,λA tg R=> ?_⟩
 .have pr:∀{v B D},CE d.Kids d.Kids.length (0:Nat) p h.Types h.bC u A z=some (v,B,D)->oK d p h.Types h.bC u A z=some (!(decide (v>=0)),B,D):=λ{v B D} N=>by
   refine By ?_;rw[U,cond_neg (by rfl),cond_neg (by rfl),cond_neg (by rfl),cond_pos (by rfl),e533b (by rw[e543b N,bG]),bG]
  rcases s_and hp af ih (o:=⟨⟨[]⟩,false,[]⟩) d.Kids 0 A tg z rfl K hA af af N with⟨B,q,G,O,P,jc,jl,jr,jt,S⟩|⟨B,q,C,G,v,O,P,jv,jt,S⟩
  .exact .inl ⟨B,q,G,w O,λQ=>pr (P Q),jc,by omega,jr,by omega,S.cg V⟩
  .refine .inr ⟨B,q,C,G,w O,λQ=> ?_,by omega,S.imp λC ρ=>(V C ρ).2⟩;rw[pr (P Q),show decide (v>=0)=true from qb jv];rfl
 .obtain⟨q,O,P⟩:=o_and hp af ih (o:=⟨⟨[]⟩,false,[]⟩) d.Kids 0 A tg rfl K af;exact⟨q,w O,af⟩
theorem list_ok {d:bI} {p:List Int} (hp:iX F p) (D:d.Op=6) (L:LT h) (z:d.Kids.length<=12) (ih:∀k∈d.Kids,DV h T F sb t u k) (M6:p.length<=190) (N:∀x∈d.Kids,p.length+14+14 *jH x<=200):
  (∀A tg I,Can T F ⟨A⟩->A.length+5000 *dL d.Kids<=138000->tg.length+dL d.Kids<=1000->AR F tg I->
   Sim T F sb t u (λC ρ=>Sat h t sb C ρ d p) A I (A.length+5000 *dL d.Kids+2000) (tg.length+dL d.Kids) (kV h A true p d t tg) (oK d p h.Types h.bC u A I))/\
  ∀A tg,tg.length+dL d.Kids<=1000->Off t (tg.length+dL d.Kids) A (kV h A false p d t tg):=by
 have hfl:=H.hv.fl;have SN:=H.tl;have hh:aK.mk h.Types h.bC=h:=rfl;have ct:∀s,f352 h s=some (jC h s):=λs=>Y6 s h af
 have o1:d.Op≠1:=af;have o2:d.Op≠2:=af;have o3:d.Op≠3:=af;have o4:d.Op≠4:=af;have o5:d.Op≠5:=af;have U:eC h p 0=p:=ai;have hq:=BY H hT hF L hp d.Kids.length;have hql:(eC h p d.Kids.length).length=p.length+d.Kids.length:=ai;have Q:∀C ρ,(Di h t sb C ρ d.Kids p/\L3 h sb C ua (eC h p d.Kids.length))↔Sat h t sb C ρ d p:=λC ρ=>by rw[oT,az o1,az o2,az o3,az o4,az o5,aB D]
 refine⟨λA tg I hA hAx V S=> ?_,λA tg V=> ?_⟩
 .have K:=ad2 H hT hF L hp z ih (o:=⟨⟨[]⟩,false,[]⟩) d.Kids 0 A tg I rfl (λx hx=>by have:=N x hx;omega) hA af af S;rw[U,eO] at K;rcases K with⟨B,q,w,G,O,jc,jl,jr,jt,P⟩|⟨B,q,C,w,G,O,jt,P⟩
  .have pr:∀{b C},vQ (eC h p d.Kids.length) (jC h ua) h.Types h.bC u B w=some (b,C,w)->HZ t u->oK d p h.Types h.bC u A I=some (b,C,w):=λ{b C} S R=>by
    refine By ?_;rw[D,cond_neg (by rfl),cond_neg (by rfl),cond_neg (by rfl),cond_neg (by rfl),cond_neg (by rfl),cond_pos (by rfl),JJ (O R),bG];simp only[];rw[ak,hh,ct,aj,S,bG]
   rcases ad3 H hT hF jc L.nu hq af u q w with⟨C,k1,k2,k3,k4,k5⟩|⟨C,k1,k2,k5⟩
   .exact .inl ⟨C,q,w,fin6 H hT hF ht af D z G k1,pr k2,k3,by omega,jr,by omega,(P.comp k5).cg Q⟩
   .exact .inr ⟨C,q,B,w,fin6 H hT hF ht af D z G k1,pr k2,by omega,(Il.after P k5).imp λC ρ=>(Q C ρ).2⟩
  .refine .inr ⟨B,q,C,w,fin6 H hT hF ht af D z G (Tz H hT B _ _ q),λR=>By ?_,by omega,P.imp λC ρ a=>((Q C ρ).2 a).1⟩;rw[D,cond_neg (by rfl),cond_neg (by rfl),cond_neg (by rfl),cond_neg (by rfl),cond_neg (by rfl),cond_pos (by rfl),JJ (O R),bG];rfl
 .obtain⟨q,G,O⟩:=Np H hT hF L hp z ih (o:=⟨⟨[]⟩,false,[]⟩) d.Kids 0 A tg rfl (λx hx=>by have:=N x hx;omega) af;exact⟨q,fin6 H hT hF ht af D z G (Tz H hT A _ _ q),af⟩
theorem diff_ok {d:bI} {p:List Int} (hp:iX F p) (o8:d.Op=8) (L:LT h) (z:d.Kids.length<=12) (ih:∀k∈d.Kids,DV h T F sb t u k) (M6:p.length<=190) (hpx:∀x∈d.Kids,p.length+14+14 *jH x<=200):
  (∀A tg w,Can T F ⟨A⟩->A.length+5000 *dL d.Kids<=138000->tg.length+dL d.Kids<=1000->AR F tg w->
   Sim T F sb t u (λC ρ=>Sat h t sb C ρ d p) A w (A.length+5000 *dL d.Kids+2000) (tg.length+dL d.Kids) (kV h A true p d t tg) (oK d p h.Types h.bC u A w))/\
  ∀A tg,tg.length+dL d.Kids<=1000->Off t (tg.length+dL d.Kids) A (kV h A false p d t tg):=by
 have hfl:=H.hv.fl;have SN:=H.tl;have hh:aK.mk h.Types h.bC=h:=rfl;have ct:∀s,f352 h s=some (jC h s):=λs=>Y6 s h af
 have o1:d.Op≠1:=af;have o2:d.Op≠2:=af;have o3:d.Op≠3:=af;have o4:d.Op≠4:=af;have o5:d.Op≠5:=af;have o6:d.Op≠6:=af;have o7:d.Op≠7:=af;have N:iX F (mo h p):=hp.app (iX.rep (n:=1) (Cs H hF L.he));have hpla:iX F (p++[fC h qv]):=hp.app (iX.rep (n:=1) (Cs H hF L.la));have hq:=BY H hT hF L N d.Kids.length;have hql:(eC h (mo h p) d.Kids.length).length=p.length+1+d.Kids.length:=aI;have hhl:(mo h p).length=p.length+1:=ai;have hr1:eC h (mo h p) 0=mo h p:=ai;have P:∀C ρ,(L3 h sb C qX p/\Di h t sb C ρ d.Kids (mo h p)/\L3 h sb C rG (eC h (mo h p) d.Kids.length)/\EqS (eC h (mo h p) d.Kids.length) (p++[fC h qv]) C)↔Sat h t sb C ρ d p:=λC ρ=>by rw[oT,az o1,az o2,az o3,az o4,az o5,az o6,az o7]
 refine⟨λA tg w hA hAx htx hr=> ?_,λA tg htx=> ?_⟩
 .have m1:∀B w,Bz p [AP] h.Types h.bC u B w=some (mo h p,B,w):=λB w=>aaT af ai af
  have m2:∀B w,Bz p [qv] h.Types h.bC u B w=some (p++[fC h qv],B,w):=λB w=>aaT af ai af
  have I:∀{r B b},vQ p (jC h qX) h.Types h.bC u A w=some (b,B,w)->(bif(!b) then some (false,B,w) else(eM (MU d.Kids (mo h p) h.Types h.bC u B w) λK R S=>
    bif K.2 then(eM (vQ K.1 (jC h rG) h.Types h.bC u R S) λy294 U V=>bif y294 then(eM (JM K.1 (p++[fC h qv]) h.Types h.bC u U V) λy304 w307 w308=>some (y304,w307,w308)) else(some (false,U,V))) else(some (false,R,S))))=some r->oK d p h.Types h.bC u A w=some r:=λ{r B b} g hr=>by
   refine By ?_;rw[o8,cond_neg (by rfl),cond_neg (by rfl),cond_neg (by rfl),cond_neg (by rfl),cond_neg (by rfl),cond_neg (by rfl),cond_neg (by rfl),hh,ct,aj,g,bG,m1,bG];simp only[ct,aj,m2,bG];exact hr
  rcases ad3 H hT hF hA L.dl hp af u tg w with⟨A1,a1,a2,a3,a4,a5⟩|⟨A1,a1,a2,a5⟩
  .have els:=ad2 H hT hF L N z ih (o:=⟨⟨[]⟩,false,[]⟩) d.Kids 0 A1 tg w rfl (λx hx=>by have:=hpx x hx;omega) a3 af af hr;rw[hr1,eO] at els;rcases els with⟨B,q,G,O,j3,jc,jl,jr,jt,js⟩|⟨B,q,C,G,O,j3,jt,js⟩
   .rcases ad3 H hT hF jc L.li hq af u q G with⟨C,k1,k2,k3,k4,k5⟩|⟨C,k1,k2,k5⟩
    .rcases s_eq H hF k3 hq hpla af aI af u q G with⟨D,l1,l2,l3,l4,l6⟩|⟨D,l1,l2,l6⟩
     .have l5:(p++[fC h qv]).length=p.length+1:=ai;refine .inl ⟨D,q,G,Zn H hT hF ht af o8 z a1 O k1 l1,λQ=>I a2 ?_,l3,by omega,jr,by omega,(a5.comp (js.comp (k5.comp l6))).cg P⟩;rw[cond_neg (by rfl),JJ (j3 Q),bG];simp only[];rw[ak,k2,bG,ak,l2,bG]
     .refine .inr ⟨D,q,C,G,Zn H hT hF ht af o8 z a1 O k1 l1,λQ=>I a2 ?_,by omega,(Il.after a5 (Il.after js (Il.after k5 l6))).imp λC ρ=>(P C ρ).2⟩;rw[cond_neg (by rfl),JJ (j3 Q),bG];simp only[];rw[ak,k2,bG,ak,l2,bG]
    .refine .inr ⟨C,q,B,G,Zn H hT hF ht af o8 z a1 O k1 (adM C _ _ q),λQ=>I a2 ?_,by omega,(Il.after a5 (Il.after js k5)).imp λC ρ a=>⟨((P C ρ).2 a).1,((P C ρ).2 a).2.1,((P C ρ).2 a).2.2.1⟩⟩;rw[cond_neg (by rfl),JJ (j3 Q),bG];simp only[];rw[ak,k2,bG,aA]
   .refine .inr ⟨B,q,C,G,Zn H hT hF ht af o8 z a1 O (Tz H hT B _ _ q) (adM B _ _ q),λQ=>I a2 ?_,by omega,(Il.after a5 js).imp λC ρ a=>⟨((P C ρ).2 a).1,((P C ρ).2 a).2.1⟩⟩;rw[cond_neg (by rfl),JJ (j3 Q),bG];rfl
  .obtain⟨q,O,j3⟩:=Np H hT hF L N z ih (o:=⟨⟨[]⟩,false,[]⟩) d.Kids 0 A1 tg rfl (λx hx=>by have:=hpx x hx;omega) af;exact .inr ⟨A1,q,A,w,Zn H hT hF ht af o8 z a1 O (Tz H hT A1 _ _ q) (adM A1 _ _ q),λQ=>I a2 (by rw[cond_pos (by rfl)]),by omega,a5.imp λC ρ a=>((P C ρ).2 a).1⟩
 .obtain⟨q,O,j3⟩:=Np H hT hF L N z ih (o:=⟨⟨[]⟩,false,[]⟩) d.Kids 0 A tg rfl (λx hx=>by have:=hpx x hx;omega) af;exact⟨q,Zn H hT hF ht af o8 z (Tz H hT A p _ tg) O (Tz H hT A _ _ q) (adM A _ _ q),af⟩
theorem add_ok (d:bI):iW (Gd h t) d->DV h T F sb t u d:=by
 refine qC (P:=λd=>iW (Gd h t) d->DV h T F sb t u d) (λd ih0 hd p hp M6=> ?_) d;have hfl:=H.hv.fl;have SN:=H.tl;have gd:=hd.here;have hkl:=gd.kl;have hpp:=gd.pl;have hop:=gd.fm.op;have ih:∀k∈d.Kids,DV h T F sb t u k:=λk hk=>ih0 k hk (hd.kids k hk)
 have hdc:=F4 d;have hh:aK.mk h.Types h.bC=h:=rfl;have ct:∀s,f352 h s=some (jC h s):=λs=>Y6 s h af
 have hr0:eC h p 0=p:=ai;by_cases o1:d.Op=1
 .have Q:∀C ρ,L3 h sb C d.Name p↔Sat h t sb C ρ d p:=λC ρ=>by rw[oT,aB o1]
  refine⟨λA tg z V hAx K I=> ?_,λA tg K=>⟨tg,CT ?_,af⟩⟩
  .rcases ad3 H hT hF V (gd.kn.ty o1) hp af u tg z with⟨B,j1,G,N,j4,j5⟩|⟨B,j1,G,j5⟩
   .refine .inl ⟨B,tg,z,CT ?_,λO=>By ?_,N,by omega,I,by omega,j5.cg Q⟩
    .rw[o1,cond_pos (by rfl)];exact qO j1
    .rw[o1,cond_pos (by rfl),hh,ct,aj,om];exact G
   .refine .inr ⟨B,tg,A,z,CT ?_,λO=>By ?_,by omega,j5.imp λC ρ=>(Q C ρ).2⟩
    .rw[o1,cond_pos (by rfl)];exact qO j1
    .rw[o1,cond_pos (by rfl),hh,ct,aj,om];exact G
  .rw[o1,cond_pos (by rfl)];exact qO (Tz H hT A p _ tg)
 by_cases o2:d.Op=2
 .obtain⟨i,x,q1,q2⟩:=gd.kn.tm o2;obtain⟨x1,x2⟩:=hs x (aR q2);have hil:=(bR.1 q2).1;have hx:t[i]=x:=(bR.1 q2).2;have Q:∀C ρ,Jf sb p x.gZ C↔Sat h t sb C ρ d p:=λC ρ=>by
   rw[oT,az o1,aB o2];refine⟨λa=>⟨i,x,q1,q2,a⟩,λ⟨i2,y,w1,w2,a⟩=> ?_⟩
   have:i2=i:=af
   subst this;rw[q2] at w2;cases w2;exact a
  have abm:f515 t d.Name=some (i:Int):=by rw[UZ _ _ af,<-q1]
  have br:∀{A ok tg B b},f518 h A ok p x.gZ tg=some (B,b,tg)->kV h A ok p d t tg=some (B,b,t,tg):=λ{A ok tg B b} I=>by refine CT ?_;rw[o2,cond_neg (by rfl),cond_pos (by rfl),abm,aj,Bv hil,aT,oL hil,hx];exact qO I
  refine⟨λA tg z V hAx K I=> ?_,λA tg K=>⟨tg,br (o518 A p _ tg),af⟩⟩;have pr:∀{B b},MT p x.gZ h.Types h.bC u A z=some (b,B,z)->HZ t u->oK d p h.Types h.bC u A z=some (b,B,z):=λ{B b} I O=>by
   obtain⟨k,b,w1,w2⟩:=O.find d.Name;rcases w2 with⟨_,i2,y,w2,w3,w4⟩|⟨_,w2⟩
   .have:i2=i:=af
    subst this;rw[q2] at w3;cases w3;obtain⟨hkl,hky⟩:=bR.1 w4;refine By ?_;rw[o2,cond_neg (by rfl),cond_pos (by rfl),w1,bG,bU hkl,hky,om];exact I
   .omega
  rcases s_put H hF V x1 hp af u tg with⟨B,j1,G,N,j4,j5⟩|⟨B,j1,G,j5⟩
  .exact .inl ⟨B,tg,z,br j1,pr (G z),N,by omega,I,by omega,(Yo H.hv.hm.to V j5).cg Q⟩
  .exact .inr ⟨B,tg,A,z,br j1,pr (G z),by omega,λC ρ a b _ e=>j5 C a b ((Q C ρ).2 e)⟩
 by_cases o3:d.Op=3
 .have Q:∀C ρ,oW C p=some (ρ d.Name)↔Sat h t sb C ρ d p:=λC ρ=>by rw[oT,az o1,az o2,aB o3]
  have br:∀{A ok tg B b tg'},f519 h A ok p d.Name tg=some (B,b,tg')->kV h A ok p d t tg=some (B,b,t,tg'):=λ{A ok tg B b tg'} I=>by refine CT ?_;rw[o3,cond_neg (by rfl),cond_neg (by rfl),cond_pos (by rfl)];exact qO I
  refine⟨λA tg z V hAx K I=> ?_,λA tg K=> ?_⟩
  .have pr:∀{r},Wt h u d.Name p A z=some r->oK d p h.Types h.bC u A z=some r:=λ{r} I=>by
    refine By ?_;rw[o3,cond_neg (by rfl),cond_neg (by rfl),cond_pos (by rfl)];exact I
   rcases s_tag H hF V hp af af u I af (s:=d.Name) with⟨B,q,w,j1,G,N,j4,j5,j6,j7⟩|⟨B,q,w,j1,G,N,j7⟩
   .exact .inl ⟨B,q,w,br j1,λ_=>pr G,N,by omega,j5,by omega,j7.cg Q⟩
   .exact .inr ⟨B,q,A,w,br j1,λ_=>pr G,by omega,j7.imp λC ρ=>(Q C ρ).2⟩
  .obtain⟨q,j1,G⟩:=o519 (h:=h) (A:=A) (p:=p) (s:=d.Name) (tg:=tg) af;exact⟨q,br j1,af⟩
 by_cases o4:d.Op=4
 .have hh:=and_ok H hT hF (u:=u) ht hs hp o4 af ih (λx hx=>by have:=rz hx;omega);refine⟨λA tg z V hAx K I=> ?_,λA tg K=> ?_⟩
  .rcases hh.1 A tg z V af af I with⟨B,q,w,G,N,jc,jl,jr,jt,P⟩|⟨B,q,C,w,G,N,jt,P⟩
   .exact .inl ⟨B,q,w,G,N,jc,by omega,jr,by omega,P⟩
   .exact .inr ⟨B,q,C,w,G,N,by omega,P⟩
  .obtain⟨q,G,N⟩:=hh.2 A tg af;exact⟨q,G,af⟩
 by_cases o5:d.Op=5
 .have h1:=gd.fm.kd.one o5;obtain⟨k0,hke⟩:=zi.1 h1;have hk0:k0∈d.Kids:=by rw[hke];simp
  have hdk:dL d.Kids=jH k0:=by rw[hke];simp[dL]
  have Q:∀C ρ,Sat h t sb C ρ k0 (p++d.Path.map (fC h))↔Sat h t sb C ρ d p:=λC ρ=>by rw[oT (d:=d),az o1,az o2,az o3,az o4,aB o5,hke,vH,vH];exact⟨λa=>⟨a,trivial⟩,λa=>a.1⟩
  have g0:∀{R:Type} (k:bI->Option R),bf d.Kids 0 k=k k0:=λk=>by rw[hke];exact jk _ _ _
  have hq:iX F (p++d.Path.map (fC h)):=hp.app λf hf=>by obtain⟨s,hs,rfl⟩:=aG.1 hf;exact Cs H hF (gd.kn.pt af s hs)
  have hik:=ih k0 hk0 _ hq (by rw[cE,bz];omega);have br2:∀{A ok tg r},kV h A ok (p++d.Path.map (fC h)) k0 t tg=some r->kV h A ok p d t tg=some r:=λ{A ok tg r} I=>by refine CT ?_;rw[o5,cond_neg (by rfl),cond_neg (by rfl),cond_neg (by rfl),cond_neg (by rfl),cond_pos (by rfl),cC _ ai af af,dQ];exact h508p H hF af d.Path 0 p rfl af r (by rw[g0];exact I)
  have pr:∀{A z r},oK k0 (p++d.Path.map (fC h)) h.Types h.bC u A z=some r->oK d p h.Types h.bC u A z=some r:=λ{A z r} I=>by refine By ?_;rw[o5,cond_neg (by rfl),cond_neg (by rfl),cond_neg (by rfl),cond_neg (by rfl),cond_pos (by rfl),g0,aaT af af af,bG,om];exact I
  refine⟨λA tg z V hAx K I=> ?_,λA tg K=> ?_⟩
  .rcases hik.1 A tg z V af af I with⟨B,q,w,G,N,jc,jl,jr,jt,P⟩|⟨B,q,C,w,G,N,jt,P⟩
   .exact .inl ⟨B,q,w,br2 G,λO=>pr (N O),jc,by omega,jr,by omega,P.cg Q⟩
   .exact .inr ⟨B,q,C,w,br2 G,λO=>pr (N O),by omega,P.imp λC ρ=>(Q C ρ).2⟩
  .obtain⟨q,G,N⟩:=hik.2 A tg af;exact⟨q,br2 G,af⟩
 have L:=gd.kn.ls af
 have fin:((∀A tg z,Can T F ⟨A⟩->A.length+5000 *dL d.Kids<=138000->tg.length+dL d.Kids<=1000->AR F tg z->
   Sim T F sb t u (λC ρ=>Sat h t sb C ρ d p) A z (A.length+5000 *dL d.Kids+2000) (tg.length+dL d.Kids) (kV h A true p d t tg) (oK d p h.Types h.bC u A z))/\
  ∀A tg,tg.length+dL d.Kids<=1000->Off t (tg.length+dL d.Kids) A (kV h A false p d t tg))->(∀A tg z,Can T F ⟨A⟩->A.length+5000 *jH d<=139400->tg.length+jH d<=1000->AR F tg z->
  Sim T F sb t u (λC ρ=>Sat h t sb C ρ d p) A z (A.length+5000 *jH d) (tg.length+jH d) (kV h A true p d t tg) (oK d p h.Types h.bC u A z))/\
 ∀A tg,tg.length+jH d<=1000->Off t (tg.length+jH d) A (kV h A false p d t tg):=λhh=>by
  refine⟨λA tg z V hAx K I=> ?_,λA tg K=> ?_⟩
  .rcases hh.1 A tg z V af af I with⟨B,q,w,G,N,jc,jl,jr,jt,P⟩|⟨B,q,C,w,G,N,jt,P⟩
   .exact .inl ⟨B,q,w,G,N,jc,by omega,jr,by omega,P⟩
   .exact .inr ⟨B,q,C,w,G,N,by omega,P⟩
  .obtain⟨q,G,N⟩:=hh.2 A tg af;exact⟨q,G,af⟩
 by_cases o6:d.Op=6
 .exact fin (list_ok H hT hF ht hs hp o6 L hkl ih af λx hx=>by have:=rz hx;omega)
 by_cases o7:d.Op=7
 .have h2:=gd.fm.kd.two o7;obtain⟨n,hn⟩:∃n,d.Kids.length=n+1:=⟨d.Kids.length-1,af⟩
  have hnl:n<d.Kids.length:=af;have Rt:(d.Kids.take n).length=n:=by rw[e7];omega
  have hdl:=JH hn;have hq:=BY H hT hF L hp n;have hql:(eC h p n).length=p.length+n:=ai;have ih2:∀k∈d.Kids.take n,DV h T F sb t u k:=λk hk=>ih k (s9 hk)
  have S:=ih d.Kids[n] (bB hnl) _ hq af;have XA:=Bw d.Kids[n];have hke:d.Kids=d.Kids.take n++[d.Kids[n]]:=by have:=lT n d.Kids;rw[iH hnl,List.drop_of_length_le (by omega:d.Kids.length<=n+1)] at this;exact this.symm
  have Q:∀C ρ,(Di h t sb C ρ (d.Kids.take n) p/\Sat h t sb C ρ d.Kids[n] (eC h p n))↔Sat h t sb C ρ d p:=λC ρ=>by have:=KH (h:=h) (t:=t) (sb:=sb) (C:=C) (ρ:=ρ) (x:=d.Kids[n]) (l:=d.Kids.take n) (p:=p);rw[Rt,<-hke] at this;rw[oT (d:=d),az o1,az o2,az o3,az o4,az o5,az o6,aB o7];exact this.symm
  refine⟨λA tg z V hAx K I=> ?_,λA tg K=> ?_⟩
  .have els:=ad2 H hT hF L hp af ih2 (o:=⟨⟨[]⟩,false,[]⟩) (d.Kids.take n) 0 A tg z rfl (λx hx=>by have:=rz hx;omega) V af af I;rw[hr0,eO,Rt] at els;have e35:∀{r},CD p (d.Kids.take n) (n:Int) ((0:Nat):Int) h.Types h.bC u A z=some r->MU (d.Kids.take n) p h.Types h.bC u A z=some r:=λ{r} I=>by
    refine JJ ?_;rw[Rt];exact I
   rcases els with⟨B,q,w,G,N,jc,jl,jr,jt,P⟩|⟨B,q,C,w,G,N,jt,P⟩
   .have pr:∀{r},oK d.Kids[n] (eC h p n) h.Types h.bC u B w=some r->HZ t u->oK d p h.Types h.bC u A z=some r:=λ{r} I O=>by
     refine By ?_;rw[o7,cond_neg (by rfl),cond_neg (by rfl),cond_neg (by rfl),cond_neg (by rfl),cond_neg (by rfl),cond_neg (by rfl),cond_pos (by rfl),hn,oF af,bT ⟨af,af⟩,aT,nR,e35 (N O),bG];simp only[];rw[ak,bU hnl,om];exact I
    rcases S.1 B q w jc af af jr with⟨C,U,mp2,k2,k3,kc,kl,kr,kt,ks⟩|⟨C,U,D,mp2,k2,k3,kt,ks⟩
    .exact .inl ⟨C,U,mp2,fin7 H hT hF ht af o7 hn af G k2,λO=>pr (k3 O) O,kc,by omega,kr,by omega,(P.comp ks).cg Q⟩
    .exact .inr ⟨C,U,D,mp2,fin7 H hT hF ht af o7 hn af G k2,λO=>pr (k3 O) O,by omega,(Il.after P ks).imp λC ρ=>(Q C ρ).2⟩
   .obtain⟨U,k2,k3⟩:=S.2 B q af;refine .inr ⟨B,U,C,w,fin7 H hT hF ht af o7 hn af G k2,λO=>By ?_,by omega,P.imp λC ρ a=>((Q C ρ).2 a).1⟩;rw[o7,cond_neg (by rfl),cond_neg (by rfl),cond_neg (by rfl),cond_neg (by rfl),cond_neg (by rfl),cond_neg (by rfl),cond_pos (by rfl),hn,oF af,bT ⟨af,af⟩,aT,nR,e35 (N O),bG];rfl
  .obtain⟨q,G,N⟩:=Np H hT hF L hp af ih2 (o:=⟨⟨[]⟩,false,[]⟩) (d.Kids.take n) 0 A tg rfl (λx hx=>by have:=rz hx;omega) af;obtain⟨U,k2,k3⟩:=S.2 A q af;exact⟨U,fin7 H hT hF ht af o7 hn af G k2,af⟩
 exact fin (diff_ok H hT hF ht hs hp af L hkl ih af λx hx=>by have:=rz hx;omega)
end
