/- Build. -/
import Derived.Test.YtacapiamkgkkjaaGreatDoorClUn
set_option linter.all false
open List (length)
namespace Go.Proofs.YtacapiamkgkkjaaGreatDoor.cl.pf
open Go Go.AM
theorem Qr {U V W X:Type} (x:Option (U×V×W×X)):(mH x λa b c d=>some (a,b,c,d))=x:=by cases x with
 |none=>rfl
 |some x=>rfl
def qI {U V W X:Type} {x:Option (U×V×W)} {t:X} {a:U} {b:V} {c:W} (h:x=some (a,b,c)):(dU x λa b c=>some (a,b,t,c))=some (a,b,t,c):=by rw[h];rfl
def XK (T F:Nat) (t:List Template):Prop:=∀x∈t,Can T F x.jR/\x.jR.az.length<=4096
def Sim (T F:Nat) (t u:List Template) (n k:Nat) (ref:Option (List Node×Bool×List tag)) (w:Option (List Node×Bool×List Template×List tag)) (q:Option (Bool×List Node×List (cr×List Int))):Prop:=
 (∃A tg z,ref=some (A,true,tg)/\w=some (A,true,t,tg)/\(HR t u->q=some (true,A,z))/\Can T F ⟨A⟩/\A.length+400<=n/\FH F tg z/\tg.length<=k)\/
 (∃A tg B z,ref=some (A,false,tg)/\w=some (A,false,t,tg)/\(HR t u->q=some (false,B,z))/\tg.length<=k)
def Off (t:List Template) (k:Nat) (A:List Node) (ref:Option (List Node×Bool×List tag)) (q:Option (List Node×Bool×List Template×List tag)):Prop:=
 ∃tg,ref=some (A,false,tg)/\q=some (A,false,t,tg)/\tg.length<=k
def L3 (h:aU) (T F:Nat) (t u:List Template) (d:bV):Prop:=∀p,jP F p->p.length+14 *wk d<=200->
 (∀A tg q,Can T F ⟨A⟩->A.length+5000 *wk d<=99400->tg.length+wk d<=1000->FH F tg q->
  Sim T F t u (A.length+5000 *wk d) (tg.length+wk d) (f508 h t A true p d tg) (q7 h A true p d t tg) (sE d p h.Types h.bN u A q))/\
 ∀A tg,tg.length+wk d<=1000->Off t (tg.length+wk d) A (f508 h t A false p d tg) (q7 h A false p d t tg)
def Jh (d:bV):1<=wk d:=by rw[NB];omega
section
variable {h:aU} {T F:Nat} {sb:Int->Int->Prop} {cD:Int->Int} {val:Int->Int->Int} (H:HX h T F sb cD val) (hT:T<=1000) (hF:F<=300) {t u:List Template} (ht:t.length<=1000) (hs:XK T F t)
section
variable {p:List Int} (hp:jP F p) {d:bV} (hl:d.Kids.length<=256) (ih:∀k∈d.Kids,L3 h T F t u k) (Ms:p.length+14 *wk d<=200)
include hp hl ih
theorem o_and {o:state}:∀(xs:List bV) (i:Nat) (A:List Node) (tg:List tag),d.Kids.drop i=xs->p.length+14 *gY xs<=200->tg.length+gY xs<=1000->
  Off t (tg.length+gY xs) A (zK t p d.Kids.length i h A false d o tg) (vX p d.Kids.length i h A false d o t tg):=by
 intro xs;induction xs with
 |nil=>intro i A tg q _ _;exact⟨tg,B5 (by rw[bp q,au]),xW (by rw[bp q,au]),af⟩
 |cons x xs B=>
  intro i A tg q w z;simp only[gY] at w z⊢;obtain⟨D,I,K,P⟩:=(ih x (bf (cn q)) p hp af).2 A tg af;obtain⟨G,N,O,Q⟩:=B (i+1) A D (aJ q) af af;refine⟨G,B5 ?_,xW ?_,af⟩
  .rw[aT q,aj,aP q,I,bg,aQ q af];exact N
  .rw[aT q,aj,aP q,K,cO,aQ q af];exact O
theorem s_and {o:state}:∀(xs:List bV) (i:Nat) (A:List Node) (tg:List tag) (O:List (cr×List Int)),d.Kids.drop i=xs->p.length+14 *gY xs<=200->Can T F ⟨A⟩->A.length+5000 *gY xs<=99400->tg.length+gY xs<=1000->FH F tg O->
  (∃B z K,zK t p d.Kids.length i h A true d o tg=some (B,true,z)/\vX p d.Kids.length i h A true d o t tg=some (B,true,t,z)/\(HR t u->Ck d.Kids d.Kids.length i p h.Types h.bN u A O=some (-1,B,K))/\Can T F ⟨B⟩/\B.length<=A.length+5000 *gY xs/\FH F z K/\z.length<=tg.length+gY xs)\/
  (∃B z C K v,zK t p d.Kids.length i h A true d o tg=some (B,false,z)/\vX p d.Kids.length i h A true d o t tg=some (B,false,t,z)/\(HR t u->Ck d.Kids d.Kids.length i p h.Types h.bN u A O=some (v,C,K))/\0<=v/\z.length<=tg.length+gY xs):=by
 intro xs;induction xs with
 |nil=>intro i A tg O w _ hA _ _ hr;exact .inl ⟨A,tg,O,B5 (by rw[bp w,au]),xW (by rw[bp w,au]),λ_=>H7 (by rw[bp w,au]),hA,by omega,hr,af⟩
 |cons x xs ihx=>
  intro i A tg O w hpx hA hAx htx hr;simp only[gY] at hpx hAx htx⊢;have hx1:=Jh x;rcases(ih x (bf (cn w)) p hp af).1 A tg O hA af af hr with⟨B,Q,N,U,V,g3,gc,gl,gr,gt⟩|⟨B,Q,C,N,U,V,g3,gt⟩
  .have q:HR t u->aab x p h.Types h.bN u A O=some (false,B,N):=λI=>e557a (by rw[g3 I,bg];rfl)
   rcases ihx (i+1) B Q N (aJ w) af gc af af gr with⟨D,G,P,R,S,j3,jc,jl,jr,jt⟩|⟨D,G,C,P,v,R,S,j3,jv,jt⟩
   .refine .inl ⟨D,G,P,B5 ?_,xW ?_,λI=>H7 ?_,jc,by omega,jr,af⟩
    .rw[aT w,aj,aP w,U,bg,aQ w af];exact R
    .rw[aT w,aj,aP w,V,cO,aQ w af];exact S
    .rw[aT w,aj,aP w,q I,bg,au,aQ w af];exact j3 I
   .refine .inr ⟨D,G,C,P,v,B5 ?_,xW ?_,λI=>H7 ?_,jv,af⟩
    .rw[aT w,aj,aP w,U,bg,aQ w af];exact R
    .rw[aT w,aj,aP w,V,cO,aQ w af];exact S
    .rw[aT w,aj,aP w,q I,bg,au,aQ w af];exact j3 I
  .obtain⟨G,R,S,jt⟩:=o_and hp hl ih (o:=o) xs (i+1) B Q (aJ w) af af;refine .inr ⟨B,G,C,N,i,B5 ?_,xW ?_,λI=>H7 ?_,by omega,af⟩
   .rw[aT w,aj,aP w,U,bg,aQ w af];exact R
   .rw[aT w,aj,aP w,V,cO,aQ w af];exact S
   .rw[aT w,aj,aP w,e557a (by rw[g3 I,bg]),bg];rfl
end
section
include H hF
theorem h508p {d:bV} (hl:d.Path.length<=64) {A:List Node} {ok:Bool} {o:state} {tg:List tag}:∀(xs:List cr) (i:Nat) (p:List Int),d.Path.drop i=xs->p.length<=1000+i->
  (∀r,(bB d.Kids 0 λx=>f508 h t A ok (p++xs.map (iY h)) x tg)=some r->IA t i h A ok d o p tg=some r)/\
  ∀r,(bB d.Kids 0 λx=>q7 h A ok (p++xs.map (iY h)) x t tg)=some r->Fp i h A ok d o p t tg=some r:=by
 have D:=H.hv.fl;intro xs;induction xs with
 |nil=>
  intro i p q _;simp only[eY,dN];refine⟨λr w=>WI ?_,λr w=>RS ?_⟩
  .rw[bp q,au];simp only[iy];exact w
  .rw[bp q,au];simp only[Qr];exact w
 |cons x xs ih=>
  intro i p q hp;have G:=eC q;obtain⟨z,B⟩:=ih (i+1) (p++[iY h x]) (aJ q) aH;rw[bu,List.append_cons];refine⟨λr w=>WI ?_,λr w=>RS ?_⟩
  .rw[aT q,aj,aP q,oT _ _ af,ak,cH _ af ai af,aQ q af];exact z r w
  .rw[aT q,aj,aP q,oT _ _ af,ak,cH _ af ai af,aQ q af];exact B r w
theorem B1 {s:cr} (q:0<=iY h s):0<=iY h s/\iY h s<(F:Int):=by
 have:iY h s<(h.bN.length:Int):=(ON _ _).1
 have:=H.hv.fl;exact⟨q,af⟩
end
section
include H hT hF
variable (L:LT h) {p:List Int} (hp:jP F p) {l:List bV} (hl:l.length<=12) (ih:∀k∈l,L3 h T F t u k)
abbrev ku (h:aU) (p:List Int) (i:Nat):List Int:=p++List.replicate i (iY h yh)
include L hp in
theorem Bw (i:Nat):jP F (ku h p i):=hp.app (jP.rep (B1 H hF L.re))
include L hp hl ih
theorem MO {o:state}:∀(xs:List bV) (i:Nat) (A:List Node) (tg:List tag),l.drop i=xs->p.length+13+14 *gY xs<=200->tg.length+gY xs<=1000->
  Off t (tg.length+gY xs) A (zL t p l i h A false o tg) (vi p l i h A false o t tg):=by
 have O:=H.hv.fl;intro xs;induction xs with
 |nil=>intro i A tg q _ _;exact⟨tg,Dp (by rw[bp q,au]),zf (by rw[bp q,au]),af⟩
 |cons x xs B=>
  intro i A tg q w z;have S:=eC q;simp only[gY] at w z⊢;have I:f521 p (iY h yh) (i:Int)=some (ku h p i):=Nr af;have c2:f521 (ku h p i) (iY h sj) 1=some (ku h p i++[iY h sj]):=Nr (n:=1) aH;obtain⟨D,K,N,R⟩:=(ih x (bf (cn q)) (ku h p i++[iY h sj]) ((Bw H hT hF L hp i).app (jP.rep (n:=1) (B1 H hF L.fi))) aH).2 A tg af;obtain⟨G,P,Q,U⟩:=B (i+1) A D (aJ q) af af;refine⟨G,Dp ?_,zf ?_,af⟩
  .rw[aT q,aj,oT _ _ af,ak,I,ak,LM H hT,bg,oT _ _ af,ak,c2,ak,aP q,K,bg,aQ q af];exact P
  .rw[aT q,aj,oT _ _ af,ak,I,ak,LM H hT,bg,oT _ _ af,ak,c2,ak,aP q,N,cO,aQ q af];exact Q
theorem acI {o:state}:∀(xs:List bV) (i:Nat) (A:List Node) (tg:List tag) (z:List (cr×List Int)),l.drop i=xs->p.length+13+14 *gY xs<=200->Can T F ⟨A⟩->A.length+5000 *gY xs<=99100->tg.length+gY xs<=1000->FH F tg z->
  (∃B w N,zL t p l i h A true o tg=some (B,true,w)/\vi p l i h A true o t tg=some (B,true,t,w)/\(HR t u->Cj (ku h p i) l l.length i h.Types h.bN u A z=some ((ku h p (i+xs.length),true),B,N))/\Can T F ⟨B⟩/\B.length<=A.length+5000 *gY xs/\FH F w N/\w.length<=tg.length+gY xs)\/
  (∃B w C N,zL t p l i h A true o tg=some (B,false,w)/\vi p l i h A true o t tg=some (B,false,t,w)/\(HR t u->Cj (ku h p i) l l.length i h.Types h.bN u A z=some (([],false),C,N))/\w.length<=tg.length+gY xs):=by
 have hfl:=H.hv.fl;have Uk:=H.tl;intro xs;induction xs with
 |nil=>intro i A tg z q _ hA _ _ hr;exact .inl ⟨A,tg,z,Dp (by rw[bp q,au]),zf (by rw[bp q,au]),λ_=>EC (by rw[bp q,au];rfl),hA,by omega,hr,af⟩
 |cons x xs ihx=>
  intro i A tg z q hpx hA hAx htx hr;have hi:=eC q;simp only[gY] at hpx hAx htx⊢;have hx1:=Jh x;have hq:=Bw H hT hF L hp i;have hql:(ku h p i).length=p.length+i:=ai;have hxi:=ih x (bf (cn q)) (ku h p i++[iY h sj]) (hq.app (jP.rep (n:=1) (B1 H hF L.fi))) aH;have c0:f352 (aU.mk h.Types h.bN) E5=some (n9 h E5):=c352 _ h af;have O:f521 p (iY h yh) (i:Int)=some (ku h p i):=Nr af;have c2:f521 (ku h p i) (iY h sj) 1=some (ku h p i++[iY h sj]):=Nr (n:=1) af;have m1:∀A z,A3 (ku h p i) [sj] h.Types h.bN u A z=some (ku h p i++[iY h sj],A,z):=λA z=>ZI af ai af
  have m2:∀A z,A3 (ku h p i) [yh] h.Types h.bN u A z=some (ku h p (i+1),A,z):=λA z=>by rw[ZI af ai af,ku,ku,uQ,ew];rfl
  have el:i+1+xs.length=i+(x::xs).length:=aH;rcases acJ H hT hF hA L.co hq af u tg with⟨B,K,j2,j3,j4⟩|⟨B,K,j2⟩
  .rcases hxi.1 B tg z j3 af af hr with⟨C,I,S,V,g2,g3,gc,gl,gr,gt⟩|⟨C,I,D,S,V,g2,g3,gt⟩
   .rcases ihx (i+1) C I S (aJ q) af gc af af gr with⟨D,G,U,Q,R,k3,kc,kl,kr,kt⟩|⟨D,G,E,U,Q,R,k3,kt⟩
    .refine .inl ⟨D,G,U,Dp ?_,zf ?_,λP=>EC ?_,kc,by omega,kr,af⟩
     .rw[aT q,aj,oT _ _ af,ak,O,ak,K,bg,oT _ _ af,ak,c2,ak,aP q,V,bg,aQ q af];exact Q
     .rw[aT q,aj,oT _ _ af,ak,O,ak,K,bg,oT _ _ af,ak,c2,ak,aP q,g2,cO,aQ q af];exact R
     .rw[aT q,aj,aP q,c0,ak,j2,bg,cond_neg (by rfl),m1,bg,g3 P,bg,cond_neg (by rfl),m2,bg,aQ q af,<-el];exact k3 P
    .refine .inr ⟨D,G,E,U,Dp ?_,zf ?_,λP=>EC ?_,af⟩
     .rw[aT q,aj,oT _ _ af,ak,O,ak,K,bg,oT _ _ af,ak,c2,ak,aP q,V,bg,aQ q af];exact Q
     .rw[aT q,aj,oT _ _ af,ak,O,ak,K,bg,oT _ _ af,ak,c2,ak,aP q,g2,cO,aQ q af];exact R
     .rw[aT q,aj,aP q,c0,ak,j2,bg,cond_neg (by rfl),m1,bg,g3 P,bg,cond_neg (by rfl),m2,bg,aQ q af];exact k3 P
   .obtain⟨G,Q,R,kt⟩:=MO H hT hF L hp hl ih (o:=o) xs (i+1) C I (aJ q) af af;refine .inr ⟨C,G,D,S,Dp ?_,zf ?_,λP=>EC ?_,af⟩
    .rw[aT q,aj,oT _ _ af,ak,O,ak,K,bg,oT _ _ af,ak,c2,ak,aP q,V,bg,aQ q af];exact Q
    .rw[aT q,aj,oT _ _ af,ak,O,ak,K,bg,oT _ _ af,ak,c2,ak,aP q,g2,cO,aQ q af];exact R
    .rw[aT q,aj,aP q,c0,ak,j2,bg,cond_neg (by rfl),m1,bg,g3 P,bg,cond_pos (by rfl)]
  .obtain⟨I,V,g2,gt⟩:=hxi.2 B tg af;obtain⟨G,Q,R,kt⟩:=MO H hT hF L hp hl ih (o:=o) xs (i+1) B I (aJ q) af af;refine .inr ⟨B,G,A,z,Dp ?_,zf ?_,λP=>EC ?_,af⟩
   .rw[aT q,aj,oT _ _ af,ak,O,ak,K,bg,oT _ _ af,ak,c2,ak,aP q,V,bg,aQ q af];exact Q
   .rw[aT q,aj,oT _ _ af,ak,O,ak,K,bg,oT _ _ af,ak,c2,ak,aP q,g2,cO,aQ q af];exact R
   .rw[aT q,aj,aP q,c0,ak,j2,bg,cond_pos (by rfl)]
end
end
end Go.Proofs.YtacapiamkgkkjaaGreatDoor.cl.pf
namespace Go.Proofs.YtacapiamkgkkjaaGreatDoor.cl.pf
open Go Go.AM
structure Gd (h:aU) (t:List Template) (d:bV):Prop where
 fm:Fm d
 kl:d.Kids.length<=12
 pl:d.Path.length<=4
 kn:Kn h t d
def Mc:∀(l m:List bV),gY (l++m)=gY l+gY m
 |[],m=>by simp[gY]
 |x::l,m=>by simp only[fS,gY,Mc l m];omega
def TV {l:List bV} {n:Nat} (h:l.length=n+1):gY l=gY (l.take n)+wk (l[n]'(by omega)):=by
 have e:l=l.take n++[l[n]'(by omega)]:=by have:=nQ n l;rw[jg (by omega:n<l.length),List.drop_of_length_le (by omega:l.length<=n+1)] at this;exact this.symm
 have q:gY (l.take n++[l[n]'(by omega)])=_:=Mc _ _;rw[<-e] at q;rw[q];simp[gY]
section
variable {h:aU} {T F:Nat} {sb:Int->Int->Prop} {cD:Int->Int} {val:Int->Int->Int} (H:HX h T F sb cD val) (hT:T<=1000) (hF:F<=300) {t u:List Template} (ht:t.length<=1000) (hs:XK T F t)
include H hT hF ht
section
variable {d:bV} {p:List Int} (hp:p.length<=200) {A:List Node} {ok:Bool} {tg:List tag}
include hp
theorem fin6 (N:d.Op=6) (S:d.Kids.length<=12) {z B:List Node} {D G:Bool} {q w:List tag} (P:zL t p d.Kids (0:Nat) h A ok ⟨⟨[]⟩,false,[]⟩ tg=some (z,D,q)) (Q:vi p d.Kids (0:Nat) h A ok ⟨⟨[]⟩,false,[]⟩ t tg=some (z,D,t,q)) (K:f517 h z D (ku h p d.Kids.length) CV q=some (B,G,w)):
  f508 h t A ok p d tg=some (B,G,w)/\q7 h A ok p d t tg=some (B,G,t,w):=by
 have R:=H.hv.fl;have I:f521 p (iY h yh) (d.Kids.length:Int)=some (ku h p d.Kids.length):=Nr af;have e1:=e520 P;have O:=ZZ Q;refine⟨e508 ?_,CD ?_⟩
 .rw[N,cond_neg (by rfl),cond_neg (by rfl),cond_neg (by rfl),cond_neg (by rfl),cond_neg (by rfl),cond_pos (by rfl),e1,bg,oT _ _ af,ak,I,ak,iy];exact K
 .rw[N,cond_neg (by rfl),cond_neg (by rfl),cond_neg (by rfl),cond_neg (by rfl),cond_neg (by rfl),cond_pos (by rfl),O,cO,oT _ _ af,ak,I,ak];exact qI K
theorem fin7 (N:d.Op=7) {n:Nat} (K:d.Kids.length=n+1) (V:n<=12) {z B:List Node} {D G:Bool} {q w:List tag} (P:zL t p (d.Kids.take n) (0:Nat) h A ok ⟨⟨[]⟩,false,[]⟩ tg=some (z,D,q)) (Q:vi p (d.Kids.take n) (0:Nat) h A ok ⟨⟨[]⟩,false,[]⟩ t tg=some (z,D,t,q)) (R:f508 h t z D (ku h p n) (d.Kids[n]'(by omega)) q=some (B,G,w)) (S:q7 h z D (ku h p n) (d.Kids[n]'(by omega)) t q=some (B,G,t,w)):
  f508 h t A ok p d tg=some (B,G,w)/\q7 h A ok p d t tg=some (B,G,t,w):=by
 have U:=H.hv.fl;have I:f521 p (iY h yh) (n:Int)=some (ku h p n):=Nr af;have e1:=e520 P;have O:=ZZ Q;refine⟨e508 ?_,CD ?_⟩
 .rw[N,cond_neg (by rfl),cond_neg (by rfl),cond_neg (by rfl),cond_neg (by rfl),cond_neg (by rfl),cond_neg (by rfl),cond_pos (by rfl),K,oA af,bU ⟨af,af⟩,aV,nT,e1,bg,oT _ _ af,ak,I,ak,cQ af,iy];exact R
 .rw[N,cond_neg (by rfl),cond_neg (by rfl),cond_neg (by rfl),cond_neg (by rfl),cond_neg (by rfl),cond_neg (by rfl),cond_pos (by rfl),K,oA af,bU ⟨af,af⟩,aV,nT,O,cO,oT _ _ af,ak,I,ak,cQ af,Qr];exact S
abbrev wJ (h:aU) (p:List Int):List Int:=p++[iY h E6]
theorem Yf (V:d.Op=8) (hk:d.Kids.length<=12) {z B N D:List Node} {G I O K:Bool} {q w:List tag} (R:f517 h A ok p zy tg=some (z,G,tg)) (g1:zL t (wJ h p) d.Kids (0:Nat) h z G ⟨⟨[]⟩,false,[]⟩ tg=some (B,I,q)) (g2:vi (wJ h p) d.Kids (0:Nat) h z G ⟨⟨[]⟩,false,[]⟩ t tg=some (B,I,t,q)) (S:f517 h B I (ku h (wJ h p) d.Kids.length) CU q=some (N,O,q)) (U:f522 h N O (ku h (wJ h p) d.Kids.length) (p++[iY h wU]) q=some (D,K,w)):
  f508 h t A ok p d tg=some (D,K,w)/\q7 h A ok p d t tg=some (D,K,t,w):=by
 have hfl:=H.hv.fl;have P:f521 (wJ h p) (iY h yh) (d.Kids.length:Int)=some (ku h (wJ h p) d.Kids.length):=Nr aH;have c2:f521 p (iY h E6) 1=some (wJ h p):=Nr (n:=1) af;have Q:f521 p (iY h wU) 1=some (p++[iY h wU]):=Nr (n:=1) af;have e1:=e520 g1;have e2:=ZZ g2;refine⟨e508 ?_,CD ?_⟩
 .rw[V,cond_neg (by rfl),cond_neg (by rfl),cond_neg (by rfl),cond_neg (by rfl),cond_neg (by rfl),cond_neg (by rfl),cond_neg (by rfl),R,bg,oT _ _ af,ak,c2,ak,e1,bg,oT _ _ af,ak,P,ak,S,bg,oT _ _ af,ak,Q,ak,iy];exact U
 .rw[V,cond_neg (by rfl),cond_neg (by rfl),cond_neg (by rfl),cond_neg (by rfl),cond_neg (by rfl),cond_neg (by rfl),cond_neg (by rfl),R,bg,oT _ _ af,ak,c2,ak,e2,cO,oT _ _ af,ak,P,ak,S,bg,oT _ _ af,ak,Q,ak];exact qI U
end
include hs
theorem add_ok (d:bV):lN (Gd h t) d->L3 h T F t u d:=by
 refine tA (P:=λd=>lN (Gd h t) d->L3 h T F t u d) (λd ih0 hd p hp Ms=> ?_) d;have hfl:=H.hv.fl;have Uk:=H.tl;have gd:=hd.here;have N:=gd.kl;have hpp:=gd.pl;have hop:=gd.fm.op;have ih:∀k∈d.Kids,L3 h T F t u k:=λk hk=>ih0 k hk (hd.kids k hk)
 have hdc:=NB d;have ne:∀k:Int,d.Op≠k->(d.Op==k)=false:=λk hk=>by simpa using hk
 have hh:aU.mk h.Types h.bN=h:=rfl;have ct:∀s,f352 h s=some (n9 h s):=λs=>c352 s h af
 have hr0:ku h p 0=p:=ai;by_cases o1:d.Op=1
 .refine⟨λA tg G hA hAx Q K=> ?_,λA tg Q=>⟨tg,e508 ?_,CD ?_,af⟩⟩
  .rcases acJ H hT hF hA (gd.kn.ty o1) hp af u tg with⟨B,z,I,P,j4⟩|⟨B,z,I⟩
   .refine .inl ⟨B,tg,G,e508 ?_,CD ?_,λO=>A2 ?_,P,by omega,K,af⟩
    .rw[o1,cond_pos (by rfl),iy];exact z
    .rw[o1,cond_pos (by rfl)];exact qI z
    .rw[o1,cond_pos (by rfl),hh,ct,ak,iy];exact I G
   .refine .inr ⟨B,tg,A,G,e508 ?_,CD ?_,λO=>A2 ?_,af⟩
    .rw[o1,cond_pos (by rfl),iy];exact z
    .rw[o1,cond_pos (by rfl)];exact qI z
    .rw[o1,cond_pos (by rfl),hh,ct,ak,iy];exact I G
  .rw[o1,cond_pos (by rfl),iy];exact LM H hT A p _ tg
  .rw[o1,cond_pos (by rfl)];exact qI (LM H hT A p _ tg)
 by_cases o2:d.Op=2
 .obtain⟨i,x,q1,q2⟩:=gd.kn.tm o2;obtain⟨x1,x2⟩:=hs x (bf q2);have hil:=(bP.1 q2).1;have hx:t[i]=x:=(bP.1 q2).2;have f515e:f515 t d.Name=some (i:Int):=by rw[XW _ _ af,<-q1]
  have br:∀{A ok tg B b},f518 h A ok p x.jR tg=some (B,b,tg)->f508 h t A ok p d tg=some (B,b,tg)/\q7 h A ok p d t tg=some (B,b,t,tg):=λ{A ok tg B b} K=>by
   refine⟨e508 ?_,CD ?_⟩
   .rw[o2,cond_neg (by rfl),cond_pos (by rfl),f515e,ak,cQ hil,hx,iy];exact K
   .rw[o2,cond_neg (by rfl),cond_pos (by rfl),f515e,ak,AX hil,aV,u9 hil,hx];exact qI K
  refine⟨λA tg G hA hAx Q K=> ?_,λA tg Q=>⟨tg,(br (o518 A p _ tg)).1,(br (o518 A p _ tg)).2,af⟩⟩;have pr:∀{B b},Mg p x.jR h.Types h.bN u A G=some (b,B,G)->HR t u->sE d p h.Types h.bN u A G=some (b,B,G):=λ{B b} K O=>by
   obtain⟨k,b,U,S⟩:=O.find d.Name;rcases S with⟨_,i2,y,S,w3,w4⟩|⟨_,S⟩
   .have:i2=i:=af
    subst this;rw[q2] at w3;cases w3;obtain⟨N,hky⟩:=bP.1 w4;refine A2 ?_;rw[o2,cond_neg (by rfl),cond_pos (by rfl),U,bg,cQ N,hky,iy];exact K
   .omega
  rcases s_put H hF hA x1 hp af u tg with⟨B,z,I,P,j4⟩|⟨B,z,I⟩
  .exact .inl ⟨B,tg,G,(br z).1,(br z).2,pr (I G),P,by omega,K,af⟩
  .exact .inr ⟨B,tg,A,G,(br z).1,(br z).2,pr (I G),af⟩
 by_cases o3:d.Op=3
 .have br:∀{A ok tg B b V},f519 h A ok p d.Name tg=some (B,b,V)->f508 h t A ok p d tg=some (B,b,V)/\q7 h A ok p d t tg=some (B,b,t,V):=λ{A ok tg B b V} K=>by
   refine⟨e508 ?_,CD ?_⟩
   .rw[o3,cond_neg (by rfl),cond_neg (by rfl),cond_pos (by rfl),iy];exact K
   .rw[o3,cond_neg (by rfl),cond_neg (by rfl),cond_pos (by rfl)];exact qI K
  refine⟨λA tg G hA hAx Q K=> ?_,λA tg Q=> ?_⟩
  .have pr:∀{r},U8 h u d.Name p A G=some r->sE d p h.Types h.bN u A G=some r:=λ{r} K=>by
    refine A2 ?_;rw[o3,cond_neg (by rfl),cond_neg (by rfl),cond_pos (by rfl)];exact K
   rcases s_tag H hF hA hp af af u K af (s:=d.Name) with⟨B,q,w,z,I,P,j4,j5,j6⟩|⟨B,q,w,z,I,P⟩
   .exact .inl ⟨B,q,w,(br z).1,(br z).2,λ_=>pr I,P,by omega,j5,af⟩
   .exact .inr ⟨B,q,A,w,(br z).1,(br z).2,λ_=>pr I,af⟩
  .obtain⟨q,z,I⟩:=o519 (h:=h) (A:=A) (p:=p) (s:=d.Name) (tg:=tg) af;exact⟨q,(br z).1,(br z).2,af⟩
 by_cases o4:d.Op=4
 .have br:∀{A ok tg B b V},zK t p d.Kids.length (0:Nat) h A ok d ⟨⟨[]⟩,false,[]⟩ tg=some (B,b,V)->f508 h t A ok p d tg=some (B,b,V):=λ{A ok tg B b V} K=>by
   refine e508 ?_;rw[o4,cond_neg (by rfl),cond_neg (by rfl),cond_neg (by rfl),cond_pos (by rfl)];exact K
  have br2:∀{A ok tg B b V},vX p d.Kids.length (0:Nat) h A ok d ⟨⟨[]⟩,false,[]⟩ t tg=some (B,b,t,V)->q7 h A ok p d t tg=some (B,b,t,V):=λ{A ok tg B b V} K=>by refine CD ?_;rw[o4,cond_neg (by rfl),cond_neg (by rfl),cond_neg (by rfl),cond_pos (by rfl)];exact K
  refine⟨λA tg G hA hAx Q K=> ?_,λA tg Q=> ?_⟩
  .have pr:∀{v B mp'},Ck d.Kids d.Kids.length (0:Nat) p h.Types h.bN u A G=some (v,B,mp')->sE d p h.Types h.bN u A G=some (!(decide (v>=0)),B,mp'):=λ{v B mp'} K=>by
    refine A2 ?_;rw[o4,cond_neg (by rfl),cond_neg (by rfl),cond_neg (by rfl),cond_pos (by rfl),e533b (by rw[e543b K,bg]),bg]
   rcases s_and hp af ih (o:=⟨⟨[]⟩,false,[]⟩) d.Kids 0 A tg G rfl af hA af af K with⟨B,q,w,z,I,P,jc,jl,jr,jt⟩|⟨B,q,C,w,v,z,I,P,jv,jt⟩
   .exact .inl ⟨B,q,w,br z,br2 I,λO=>pr (P O),jc,by omega,jr,af⟩
   .refine .inr ⟨B,q,C,w,br z,br2 I,λO=> ?_,af⟩;rw[pr (P O),show decide (v>=0)=true from uS jv];rfl
  .obtain⟨q,z,I,P⟩:=o_and hp af ih (o:=⟨⟨[]⟩,false,[]⟩) d.Kids 0 A tg rfl af af;exact⟨q,br z,br2 I,af⟩
 by_cases o5:d.Op=5
 .have h1:=gd.fm.kd.one o5;obtain⟨k0,hke⟩:=DX.1 h1;have hk0:k0∈d.Kids:=by rw[hke];simp
  have hdk:gY d.Kids=wk k0:=by rw[hke];simp[gY]
  have g0:∀{R:Type} (k:bV->Option R),bB d.Kids 0 k=k k0:=λk=>by rw[hke];exact jE _ _ _
  have hq:jP F (p++d.Path.map (iY h)):=hp.app λf hf=>by obtain⟨s,hs,rfl⟩:=aD.1 hf;exact B1 H hF (gd.kn.pt af s hs)
  have hik:=ih k0 hk0 _ hq (by rw[cM,bC];omega);have br:∀{A ok tg r},f508 h t A ok (p++d.Path.map (iY h)) k0 tg=some r->f508 h t A ok p d tg=some r:=λ{A ok tg r} K=>by refine e508 ?_;rw[o5,cond_neg (by rfl),cond_neg (by rfl),cond_neg (by rfl),cond_neg (by rfl),cond_pos (by rfl),cH _ ai af af,dS];exact(h508p H hF af d.Path 0 p rfl af).1 r (by rw[g0];exact K)
  have br2:∀{A ok tg r},q7 h A ok (p++d.Path.map (iY h)) k0 t tg=some r->q7 h A ok p d t tg=some r:=λ{A ok tg r} K=>by refine CD ?_;rw[o5,cond_neg (by rfl),cond_neg (by rfl),cond_neg (by rfl),cond_neg (by rfl),cond_pos (by rfl),cH _ ai af af,dS];exact(h508p H hF af d.Path 0 p rfl af).2 r (by rw[g0];exact K)
  have pr:∀{A G r},sE k0 (p++d.Path.map (iY h)) h.Types h.bN u A G=some r->sE d p h.Types h.bN u A G=some r:=λ{A G r} K=>by refine A2 ?_;rw[o5,cond_neg (by rfl),cond_neg (by rfl),cond_neg (by rfl),cond_neg (by rfl),cond_pos (by rfl),g0,ZI af af af,bg,iy];exact K
  refine⟨λA tg G hA hAx Q K=> ?_,λA tg Q=> ?_⟩
  .rcases hik.1 A tg G hA af af K with⟨B,q,w,z,I,P,jc,jl,jr,jt⟩|⟨B,q,C,w,z,I,P,jt⟩
   .exact .inl ⟨B,q,w,br z,br2 I,λO=>pr (P O),jc,by omega,jr,af⟩
   .exact .inr ⟨B,q,C,w,br z,br2 I,λO=>pr (P O),af⟩
  .obtain⟨q,z,I,P⟩:=hik.2 A tg af;exact⟨q,br z,br2 I,af⟩
 have L:=gd.kn.ls af;by_cases o6:d.Op=6
 .have hq:=Bw H hT hF L hp d.Kids.length;have hql:(ku h p d.Kids.length).length=p.length+d.Kids.length:=ai;refine⟨λA tg G hA hAx Q K=> ?_,λA tg Q=> ?_⟩
  .have els:=acI H hT hF L hp N ih (o:=⟨⟨[]⟩,false,[]⟩) d.Kids 0 A tg G rfl af hA af af K;rw[hr0,eN] at els;rcases els with⟨B,q,w,z,I,P,jc,jl,jr,jt⟩|⟨B,q,C,w,z,I,P,jt⟩
   .have pr:∀{b C},vz (ku h p d.Kids.length) (n9 h CV) h.Types h.bN u B w=some (b,C,w)->HR t u->sE d p h.Types h.bN u A G=some (b,C,w):=λ{b C} K O=>by
     refine A2 ?_;rw[o6,cond_neg (by rfl),cond_neg (by rfl),cond_neg (by rfl),cond_neg (by rfl),cond_neg (by rfl),cond_pos (by rfl),Ji (P O),bg];simp only[];rw[aj,hh,ct,ak,K,bg]
    rcases acJ H hT hF jc L.nu hq af u q with⟨C,k1,k2,k3,k4⟩|⟨C,k1,k2⟩
    .obtain⟨U,S⟩:=fin6 H hT hF ht af o6 N z I k1;exact .inl ⟨C,q,w,U,S,pr (k2 w),k3,by omega,jr,af⟩
    .obtain⟨U,S⟩:=fin6 H hT hF ht af o6 N z I k1;exact .inr ⟨C,q,B,w,U,S,pr (k2 w),af⟩
   .obtain⟨U,S⟩:=fin6 H hT hF ht af o6 N z I (LM H hT B _ _ q);refine .inr ⟨B,q,C,w,U,S,λO=>A2 ?_,af⟩;rw[o6,cond_neg (by rfl),cond_neg (by rfl),cond_neg (by rfl),cond_neg (by rfl),cond_neg (by rfl),cond_pos (by rfl),Ji (P O),bg];rfl
  .obtain⟨q,z,I,P⟩:=MO H hT hF L hp N ih (o:=⟨⟨[]⟩,false,[]⟩) d.Kids 0 A tg rfl af af;obtain⟨U,S⟩:=fin6 H hT hF ht af o6 N z I (LM H hT A _ _ q);exact⟨q,U,S,af⟩
 by_cases o7:d.Op=7
 .have h2:=gd.fm.kd.two o7;obtain⟨n,hn⟩:∃n,d.Kids.length=n+1:=⟨d.Kids.length-1,af⟩
  have hnl:n<d.Kids.length:=af;have Th:(d.Kids.take n).length=n:=by rw[fC];omega
  have hdl:=TV hn;have hq:=Bw H hT hF L hp n;have hql:(ku h p n).length=p.length+n:=ai;have ih2:∀k∈d.Kids.take n,L3 h T F t u k:=λk hk=>ih k (sJ hk)
  have aau:=ih d.Kids[n] (cG hnl) _ hq af;have Yn:=Jh d.Kids[n];refine⟨λA tg G hA hAx Q K=> ?_,λA tg Q=> ?_⟩
  .have els:=acI H hT hF L hp af ih2 (o:=⟨⟨[]⟩,false,[]⟩) (d.Kids.take n) 0 A tg G rfl af hA af af K;rw[hr0,eN,Th] at els;have e35:∀{r},Cj p (d.Kids.take n) (n:Int) ((0:Nat):Int) h.Types h.bN u A G=some r->Mh (d.Kids.take n) p h.Types h.bN u A G=some r:=λ{r} K=>by
    refine Ji ?_;rw[Th];exact K
   rcases els with⟨B,q,w,z,I,P,jc,jl,jr,jt⟩|⟨B,q,C,w,z,I,P,jt⟩
   .have pr:∀{r},sE d.Kids[n] (ku h p n) h.Types h.bN u B w=some r->HR t u->sE d p h.Types h.bN u A G=some r:=λ{r} K O=>by
     refine A2 ?_;rw[o7,cond_neg (by rfl),cond_neg (by rfl),cond_neg (by rfl),cond_neg (by rfl),cond_neg (by rfl),cond_neg (by rfl),cond_pos (by rfl),hn,oA af,bU ⟨af,af⟩,aV,nT,e35 (P O),bg];simp only[];rw[aj,cQ hnl,iy];exact K
    rcases aau.1 B q w jc af af jr with⟨C,tg2,mp2,k1,k2,k3,kc,kl,kr,kt⟩|⟨C,tg2,D,mp2,k1,k2,k3,kt⟩
    .obtain⟨U,S⟩:=fin7 H hT hF ht af o7 hn af z I k1 k2;exact .inl ⟨C,tg2,mp2,U,S,λO=>pr (k3 O) O,kc,by omega,kr,af⟩
    .obtain⟨U,S⟩:=fin7 H hT hF ht af o7 hn af z I k1 k2;exact .inr ⟨C,tg2,D,mp2,U,S,λO=>pr (k3 O) O,af⟩
   .obtain⟨tg2,k1,k2,k3⟩:=aau.2 B q af;obtain⟨U,S⟩:=fin7 H hT hF ht af o7 hn af z I k1 k2;refine .inr ⟨B,tg2,C,w,U,S,λO=>A2 ?_,af⟩;rw[o7,cond_neg (by rfl),cond_neg (by rfl),cond_neg (by rfl),cond_neg (by rfl),cond_neg (by rfl),cond_neg (by rfl),cond_pos (by rfl),hn,oA af,bU ⟨af,af⟩,aV,nT,e35 (P O),bg];rfl
  .obtain⟨q,z,I,P⟩:=MO H hT hF L hp af ih2 (o:=⟨⟨[]⟩,false,[]⟩) (d.Kids.take n) 0 A tg rfl af af;obtain⟨tg2,k1,k2,k3⟩:=aau.2 A q af;obtain⟨U,S⟩:=fin7 H hT hF ht af o7 hn af z I k1 k2;exact⟨tg2,U,S,af⟩
 have o8:d.Op=8:=af;have hp1:jP F (wJ h p):=hp.app (jP.rep (n:=1) (B1 H hF L.he));have hpla:jP F (p++[iY h wU]):=hp.app (jP.rep (n:=1) (B1 H hF L.la));have hq:=Bw H hT hF L hp1 d.Kids.length;have hql:(ku h (wJ h p) d.Kids.length).length=p.length+1+d.Kids.length:=aH;have hhl:(wJ h p).length=p.length+1:=ai;have hr1:ku h (wJ h p) 0=wJ h p:=ai;refine⟨λA tg G hA hAx Q K=> ?_,λA tg Q=> ?_⟩
 .have m1:∀B G,A3 p [E6] h.Types h.bN u B G=some (wJ h p,B,G):=λB G=>ZI af ai af
  have m2:∀B G,A3 p [wU] h.Types h.bN u B G=some (p++[iY h wU],B,G):=λB G=>ZI af ai af
  have pr0:∀{r B b},vz p (n9 h zy) h.Types h.bN u A G=some (b,B,G)->(bif(!b) then some (false,B,G) else(dU (Mh d.Kids (wJ h p) h.Types h.bN u B G) λy287 w290 w291=>
    bif y287.2 then(dU (vz y287.1 (n9 h CU) h.Types h.bN u w290 w291) λy294 w297 w298=>bif y294 then(dU (Jo y287.1 (p++[iY h wU]) h.Types h.bN u w297 w298) λy304 w307 w308=>some (y304,w307,w308)) else(some (false,w297,w298))) else(some (false,w290,w291))))=some r->sE d p h.Types h.bN u A G=some r:=λ{r B b} g K=>by
   refine A2 ?_;rw[o8,cond_neg (by rfl),cond_neg (by rfl),cond_neg (by rfl),cond_neg (by rfl),cond_neg (by rfl),cond_neg (by rfl),cond_neg (by rfl),hh,ct,ak,g,bg,m1,bg];simp only[ct,ak,m2,bg];exact K
  rcases acJ H hT hF hA L.dl hp af u tg with⟨A1,a1,a2,a3,a4⟩|⟨A1,a1,a2⟩
  .have els:=acI H hT hF L hp1 N ih (o:=⟨⟨[]⟩,false,[]⟩) d.Kids 0 A1 tg G rfl af a3 af af K;rw[hr1,eN] at els;rcases els with⟨B,q,w,z,I,P,jc,jl,jr,jt⟩|⟨B,q,C,w,z,I,P,jt⟩
   .rcases acJ H hT hF jc L.li hq af u q with⟨C,k1,k2,k3,k4⟩|⟨C,k1,k2⟩
    .rcases s_eq H hF k3 hq hpla af aH af u q with⟨D,l1,l2,l3,l4⟩|⟨D,l1,l2⟩
     .obtain⟨U,S⟩:=Yf H hT hF ht af o8 N a1 z I k1 l1;have l5:(p++[iY h wU]).length=p.length+1:=ai;refine .inl ⟨D,q,w,U,S,λO=>pr0 (a2 G) ?_,l3,by omega,jr,af⟩;rw[cond_neg (by rfl),Ji (P O),bg];simp only[];rw[aj,k2,bg,aj,l2,bg]
     .obtain⟨U,S⟩:=Yf H hT hF ht af o8 N a1 z I k1 l1;refine .inr ⟨D,q,C,w,U,S,λO=>pr0 (a2 G) ?_,af⟩;rw[cond_neg (by rfl),Ji (P O),bg];simp only[];rw[aj,k2,bg,aj,l2,bg]
    .obtain⟨U,S⟩:=Yf H hT hF ht af o8 N a1 z I k1 (acn C _ _ q);refine .inr ⟨C,q,B,w,U,S,λO=>pr0 (a2 G) ?_,af⟩;rw[cond_neg (by rfl),Ji (P O),bg];simp only[];rw[aj,k2,bg,au]
   .obtain⟨U,S⟩:=Yf H hT hF ht af o8 N a1 z I (LM H hT B _ _ q) (acn B _ _ q);refine .inr ⟨B,q,C,w,U,S,λO=>pr0 (a2 G) ?_,af⟩;rw[cond_neg (by rfl),Ji (P O),bg];rfl
  .obtain⟨q,z,I,P⟩:=MO H hT hF L hp1 N ih (o:=⟨⟨[]⟩,false,[]⟩) d.Kids 0 A1 tg rfl af af;obtain⟨U,S⟩:=Yf H hT hF ht af o8 N a1 z I (LM H hT A1 _ _ q) (acn A1 _ _ q);exact .inr ⟨A1,q,A,G,U,S,λO=>pr0 (a2 G) (by rw[cond_pos (by rfl)]),af⟩
 .obtain⟨q,z,I,P⟩:=MO H hT hF L hp1 N ih (o:=⟨⟨[]⟩,false,[]⟩) d.Kids 0 A tg rfl af af;obtain⟨U,S⟩:=Yf H hT hF ht af o8 N (LM H hT A p _ tg) z I (LM H hT A _ _ q) (acn A _ _ q);exact⟨q,U,S,af⟩
end
end Go.Proofs.YtacapiamkgkkjaaGreatDoor.cl.pf
namespace Go.Proofs.YtacapiamkgkkjaaGreatDoor.cl.pf
open Go Go.AM
section
variable {h:aU} {T F:Nat} {sb:Int->Int->Prop} {cD:Int->Int} {val:Int->Int->Int} (H:HX h T F sb cD val) (hT:T<=1000) (hF:F<=300) {t u:List Template} (ht:t.length<=1000) (hs:XK T F t)
include H in
theorem aaF {f:FSt} {D G:Option (FSt×Bool)} (N:XH T sb cD val f D) (O:XH T sb cD val f G):D=G:=by
 rcases N with⟨a,e1,w,I⟩|⟨e1,P⟩<;>rcases O with⟨b,B,z,K⟩|⟨B,Q⟩
 .have R:Co sb cD val f (λn=>a.getD n 0):=λn q=>⟨w.up n q,I n q⟩
  have S:Co sb cD val f (λn=>b.getD n 0):=λn q=>⟨z.up n q,K n q⟩
  have:a=b:=Z9 (w.len.trans z.len.symm) λn q=>by rw[w.len] at q;exact H.hv.hm.to.anti (w.dy _ S n q) (z.dy _ R n q)
  rw[e1,B,this]
 .exact(Q _ λn q=>⟨w.up n q,I n q⟩).elim
 .exact(P _ λn q=>⟨z.up n q,K n q⟩).elim
 .rw[e1,B]
def BRes (T F:Nat) (f:FSt) (e:Int):Prop:=(e=0/\Can T F f/\f.az.length<=4096)\/(e≠0/\f=⟨[]⟩)
theorem LD.gd {d:bV} (w:LD d) (z:lN (Kn h t) d):lN (Gd h t) d:=
 (((w.fm.and w.lt).and w.sh).and z).imp λd q=>⟨q.1.1.1,q.1.1.2.kl,q.1.2,q.2⟩
include H hT hF ht hs
theorem C8 (wH:0<T) {d:bV} (hd:LD d):∃f e,f501 h t d=some (f,e)/\Rf h d t=some ((f,e),t)/\(HR t u->f500 h u d=some (f,e))/\BRes T F f e/\(e=0->lN (Kn h t) d):=by
 obtain⟨b,k1,k2,k3⟩:=c507 H hT hF ht d hd.fm;have mk:∀{f e},HR t u->(∃C K,aaa d h.Types h.bN u [] []=some ((f,e),C,K))->f500 h u d=some (f,e):=λ{f e} _ z=>by obtain⟨C,K,z⟩:=z;refine e500 ?_;rw[e505 rfl,y4,z,bg]
 cases b with
 |false=>
  refine⟨⟨[]⟩,5,e501 ?_,e501a ?_,λD=>mk D ⟨[],[],e506a ?_⟩, .inr ⟨by decide,rfl⟩,λe=>by omega⟩
  .rw[k1,ak,cond_pos (by rfl)]
  .rw[k1,ak,cond_pos (by rfl)]
  .rw[k2 D,bg,cond_pos (by rfl)]
 |true=>
  have kn:=k3 rfl;have hc1:Can T F ⟨[⟨0,[]⟩]⟩:=WZ H hF ⟨af,af⟩;have hdc:=hd.cnt;have r1:∀{A b tg r},f508 h t [⟨0,[]⟩] true [] d []=some (A,b,tg)->(bif(!b) then(some ((FSt.mk ([]:List Node)),(12:Int))) else(Option.bind (f441 h (FSt.mk A)) λq=>bif(!q.2) then(some ((FSt.mk ([]:List Node)),12)) else(bif(decide ((length q.1.az:Int)>4096)) then(some ((FSt.mk ([]:List Node)),7)) else(some (q.1,0)))))=some r->f501 h t d=some r:=λ{A b tg r} g z=>by refine e501 ?_;rw[k1,ak,cond_neg (by rfl),ZG,ak];show wh FA [⟨_,[]⟩] ([[]].map some) _=_;rw[ox rfl];show dU (f508 h t [⟨0,[]⟩] true [] d []) _=_;rw[g,bg];exact z
  have r2:∀{A b tg f e},q7 h [⟨0,[]⟩] true [] d t []=some (A,b,t,tg)->(bif(!b) then(some ((FSt.mk ([]:List Node)),(12:Int))) else(Option.bind (f441 h (FSt.mk A)) λq=>bif(!q.2) then(some ((FSt.mk ([]:List Node)),12)) else(bif(decide ((length q.1.az:Int)>4096)) then(some ((FSt.mk ([]:List Node)),7)) else(some (q.1,0)))))=some (f,e)->Rf h d t=some ((f,e),t):=λ{A b tg f e} g z=>by refine e501a ?_;rw[k1,ak,cond_neg (by rfl),ZG,ak];show wh FA [⟨_,[]⟩] ([[]].map some) _=_;rw[ox rfl];show mH (q7 h [⟨0,[]⟩] true [] d t []) _=_;rw[g,cO];revert z;cases b with
   |false=>intro z;rw[cond_pos (by rfl)] at z⊢;cases z;rfl
   |true=>intro z;rw[cond_neg (by rfl)] at z⊢;cases P:f441 h ⟨A⟩ with
    |none=>rw[P] at z;cases z
    |some y=>rw[P,ak] at z;rw[ak];cases V:(!y.2) with
     |true=>rw[V,aj] at z;rw[aj];cases z;rfl
     |false=>rw[V,au] at z;rw[au];cases h3:decide ((y.1.az.length:Int)>4096) with
      |true=>rw[h3,aj] at z;rw[aj];cases z;rfl
      |false=>rw[h3,au] at z;rw[au];cases z;rfl
  have r3:∀{A b K f e},HR t u->sE d [] h.Types h.bN u [⟨0,[]⟩] []=some (b,A,K)->(bif(!b) then(some ((FSt.mk ([]:List Node)),(12:Int))) else(Option.bind (f434 h (FSt.mk A)) λq=>bif(!q.2) then(some ((FSt.mk ([]:List Node)),12)) else(bif(decide ((length q.1.az:Int)>4096)) then(some ((FSt.mk ([]:List Node)),7)) else(some (q.1,0)))))=some (f,e)->f500 h u d=some (f,e):=λ{A b K f e} D g z=>by refine mk D ⟨A,K,e506a ?_⟩;rw[k2 D,bg,cond_neg (by rfl),bU ⟨af,by omega,by decide,af⟩];show dU (sE d [] h.Types h.bN u [⟨0,[]⟩] []) _=_;rw[g,bg];revert z;show _->(bif !b then _ else Option.bind (f434 h ⟨A⟩) _)=_;cases b with
   |false=>intro z;rw[cond_pos (by rfl)] at z⊢;cases z;rfl
   |true=>intro z;rw[cond_neg (by rfl)] at z⊢;cases P:f434 h ⟨A⟩ with
    |none=>rw[P] at z;cases z
    |some y=>rw[P,ak] at z;rw[ak];cases V:(!y.2) with
     |true=>rw[V,aj] at z;rw[aj];cases z;rfl
     |false=>rw[V,au] at z;rw[au];cases h3:decide ((y.1.az.length:Int)>4096) with
      |true=>rw[h3,aj] at z;rw[aj];cases z;rfl
      |false=>rw[h3,au] at z;rw[au];cases z;rfl
  rcases(add_ok H hT hF ht hs d (hd.gd kn) [] (by intro f hf;cases hf) aH).1 [⟨0,[]⟩] [] [] hc1 aH aH .nil with⟨A,tg,K,Q,R,U,gc,gl,gr,gt⟩|⟨A,tg,B,K,Q,R,U,gt⟩
  .have hAn:(FSt.mk A).az.length<=100000:=by
    have:([⟨0,[]⟩]:List Node).length=1:=rfl
    show A.length<=100000;omega
   have i1:=c434 H.hv gc hAn hT af;have i2:=c441 H.hv gc hAn af;have ie:=aaF H i1 i2;rcases i2 with⟨tl,I,S,w⟩|⟨I,_⟩
   .have hcr:Can T F (FE ⟨A⟩ tl):=gc.FE S.len S.rg;have hrl:(FE ⟨A⟩ tl).az.length=A.length:=Cb S.len;have N:∀{x},x=some (FE ⟨A⟩ tl,true)->(bif(!true) then(some ((FSt.mk ([]:List Node)),(12:Int))) else(Option.bind x λq=>bif(!q.2) then(some ((FSt.mk ([]:List Node)),12)) else(bif(decide ((length q.1.az:Int)>4096)) then(some ((FSt.mk ([]:List Node)),7)) else(some (q.1,0)))))=if A.length>4096 then some (⟨[]⟩,7) else some (FE ⟨A⟩ tl,0):=λ{x} O=>by
     rw[cond_neg (by rfl),O,ak,cond_neg (by rfl),hrl];by_cases hb:A.length>4096
     .rw[aB hb,cond_pos (by rw[bz];omega)]
     .rw[aA hb,cond_neg (by rw[aS];omega)]
    by_cases hb:A.length>4096
    .have G:∀{x},x=some (FE ⟨A⟩ tl,true)->_:=λ{x} O=>(N O).trans (aB hb)
     exact⟨_,_,r1 Q (G I),r2 R (G I),λD=>r3 D (U D) (G (ie.trans I)), .inr ⟨by decide,rfl⟩,λe=>by cases e⟩
    .have G:∀{x},x=some (FE ⟨A⟩ tl,true)->_:=λ{x} O=>(N O).trans (aA hb)
     exact⟨_,_,r1 Q (G I),r2 R (G I),λD=>r3 D (U D) (G (ie.trans I)), .inl ⟨rfl,hcr,af⟩,λ_=>kn⟩
   .have G:∀{x},x=some (⟨[]⟩,false)->(bif(!true) then(some ((FSt.mk ([]:List Node)),(12:Int))) else(Option.bind x λq=>bif(!q.2) then(some ((FSt.mk ([]:List Node)),12)) else(bif(decide ((length q.1.az:Int)>4096)) then(some ((FSt.mk ([]:List Node)),7)) else(some (q.1,0)))))=some (⟨[]⟩,12):=λ{x} O=>by
     rw[cond_neg (by rfl),O,ak,cond_pos (by rfl)]
    exact⟨_,_,r1 Q (G I),r2 R (G I),λD=>r3 D (U D) (G (ie.trans I)), .inr ⟨by decide,rfl⟩,λe=>by cases e⟩
  .exact⟨⟨[]⟩,12,r1 Q (by rw[cond_pos (by rfl)]),r2 R (by rw[cond_pos (by rfl)]),λD=>r3 D (U D) (by rw[cond_pos (by rfl)]), .inr ⟨by decide,rfl⟩,λe=>by cases e⟩
end
