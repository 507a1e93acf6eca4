/- Build. -/
import Derived.Test.YthphfjcnkinkpaaGreatDoorClWb
import Derived.Test.YthphfjcnkinkpaaGreatDoorClWm
set_option linter.all false
open List (length)
namespace Go.Proofs.YthphfjcnkinkpaaGreatDoor.cl.pf
open Go Go.AM
structure Gd (h:aJ) (t:List Template) (d:bJ):Prop where
 fm:Fm d
 kl:d.Kids.length<=12
 pl:d.Path.length<=4
 kn:Kn h t d
theorem Na:∀(l m:List bJ),dV (l++m)=dV l+dV m
 |[],m=>by simp[dV]
 |x::l,m=>by simp[gF,dV,Na l m];omega
def Vi {l:List bJ} {n:Nat} (h:l.length=n+1):dV l=dV (l.take n)+iQ (l[n]'(by omega)):=by grind[List.take_append_drop,List.drop_eq_getElem_cons,dV,Na]
section
variable {h:aJ} {T F:Nat} {sb:Int->Int->Prop} {bN:Int->Int} {val:Int->Int->Int} (H:HX h T F sb bN val) (hT:T<=1000) (hF:F<=300) {t u:List Template} (ht:t.length<=1000) (hs:UM T F t)
include H hT hF ht
section
variable {d:bJ} {p:List Int} (hp:p.length<=200) {A:List Node} {ok:Bool} {tg:List tag}
include hp
theorem fin6 (P:d.Op=6) (Q:d.Kids.length<=12) {z B:List Node} {D G:Bool} {q w:List tag} (L:vE p d.Kids (0:Nat) h A ok ⟨⟨[]⟩,false,[]⟩ t tg=some (z,D,t,q)) (N:f517 h z D (e7 h p d.Kids.length) ud q=some (B,G,w)):
  kR h A ok p d t tg=some (B,G,t,w):=by
 have O:=H.hv.fl;have I:f521 p (eY h pH) (d.Kids.length:Int)=some (e7 h p d.Kids.length):=Ou af;have K:=abq L;refine Dq ?_;rw[P,cond_neg (by rfl),cond_neg (by rfl),cond_neg (by rfl),cond_neg (by rfl),cond_neg (by rfl),cond_pos (by rfl),K,cF,xZ _ _ af,aj,I,aj];exact qK N
theorem fin7 (Q:d.Op=7) {n:Nat} (P:d.Kids.length=n+1) (R:n<=12) {z B:List Node} {D G:Bool} {q w:List tag} (L:vE p (d.Kids.take n) (0:Nat) h A ok ⟨⟨[]⟩,false,[]⟩ t tg=some (z,D,t,q)) (N:kR h z D (e7 h p n) (d.Kids[n]'(by omega)) t q=some (B,G,t,w)):
  kR h A ok p d t tg=some (B,G,t,w):=by
 have O:=H.hv.fl;have I:f521 p (eY h pH) (n:Int)=some (e7 h p n):=Ou af;have K:=abq L;refine Dq ?_;rw[Q,cond_neg (by rfl),cond_neg (by rfl),cond_neg (by rfl),cond_neg (by rfl),cond_neg (by rfl),cond_neg (by rfl),cond_pos (by rfl),P,qq af,bW ⟨af,af⟩,aZ,p7,K,cF,xZ _ _ af,aj,I,aj,cH af,RU];exact N
theorem Zy (ho:d.Op=8) (hk:d.Kids.length<=12) {z B D G:List Node} {I K L N:Bool} {q w:List tag} (R:f517 h A ok p qT tg=some (z,I,tg)) (S:vE (lZ h p) d.Kids (0:Nat) h z I ⟨⟨[]⟩,false,[]⟩ t tg=some (B,K,t,q)) (U:f517 h B K (e7 h (lZ h p) d.Kids.length) uc q=some (D,L,q)) (V:f522 h D L (e7 h (lZ h p) d.Kids.length) (p++[eY h rC]) q=some (G,N,w)):
  kR h A ok p d t tg=some (G,N,t,w):=by
 have hfl:=H.hv.fl;have O:f521 (lZ h p) (eY h pH) (d.Kids.length:Int)=some (e7 h (lZ h p) d.Kids.length):=Ou aH;have c2:f521 p (eY h rB) 1=some (lZ h p):=Ou (n:=1) af;have P:f521 p (eY h rC) 1=some (p++[eY h rC]):=Ou (n:=1) af;have Q:=abq S;refine Dq ?_;rw[ho,cond_neg (by rfl),cond_neg (by rfl),cond_neg (by rfl),cond_neg (by rfl),cond_neg (by rfl),cond_neg (by rfl),cond_neg (by rfl),R,bG,xZ _ _ af,aj,c2,aj,Q,cF,xZ _ _ af,aj,O,aj,U,bG,xZ _ _ af,aj,P,aj];exact qK V
end
include hs
theorem and_ok {d:bJ} {p:List Int} (hp:iE F p) (S:d.Op=4) (hkl:d.Kids.length<=256) (V:∀k∈d.Kids,Dc h T F sb t u k) (K:∀x∈d.Kids,p.length+14 *iQ x<=200):
  (∀A tg z,Can T F ⟨A⟩->A.length+5000 *dV d.Kids<=139400->tg.length+dV d.Kids<=1000->Bk F tg z->
   Sim T F sb t u (λC ρ=>Sat h t sb C ρ d p) A z (A.length+5000 *dV d.Kids+400) (tg.length+dV d.Kids) (kR h A true p d t tg) (oG d p h.Types h.bD u A z))/\
  ∀A tg,tg.length+dV d.Kids<=1000->Off t (tg.length+dV d.Kids) A (kR h A false p d t tg):=by
 have U:∀C ρ,wR h t sb C ρ d.Kids p↔Sat h t sb C ρ d p:=λC ρ=>by rw[uu,az af,az af,az af,aB S]
 have w:∀{A ok tg B b I},wN p d.Kids.length (0:Nat) h A ok d ⟨⟨[]⟩,false,[]⟩ t tg=some (B,b,t,I)->kR h A ok p d t tg=some (B,b,t,I):=λ{A ok tg B b I} L=>by refine Dq ?_;rw[S,cond_neg (by rfl),cond_neg (by rfl),cond_neg (by rfl),cond_pos (by rfl)];exact L
 refine⟨λA tg z hA hAx Q L=> ?_,λA tg Q=> ?_⟩
 .have pr:∀{v B D},CW d.Kids d.Kids.length (0:Nat) p h.Types h.bD u A z=some (v,B,D)->oG d p h.Types h.bD u A z=some (!(decide (v>=0)),B,D):=λ{v B D} L=>by
   refine BT ?_;rw[S,cond_neg (by rfl),cond_neg (by rfl),cond_neg (by rfl),cond_pos (by rfl),e533b (by rw[e543b L,bG]),bG]
  rcases s_and hp af V (o:=⟨⟨[]⟩,false,[]⟩) d.Kids 0 A tg z rfl K hA af af L with⟨B,q,G,N,O,jc,jl,jr,jt,R⟩|⟨B,q,C,G,v,N,O,jv,jt,R⟩
  .exact .inl ⟨B,q,G,w N,λP=>pr (O P),jc,by omega,jr,by omega,R.cg U⟩
  .refine .inr ⟨B,q,C,G,w N,λP=> ?_,by omega,R.imp λC ρ=>(U C ρ).2⟩;rw[pr (O P),show decide (v>=0)=true from qa jv];rfl
 .obtain⟨q,N,O⟩:=o_and hp af V (o:=⟨⟨[]⟩,false,[]⟩) d.Kids 0 A tg rfl K af;exact⟨q,w N,af⟩
theorem Yc {d:bJ} {p:List Int} (hp:iE F p) (D:d.Op=6) (L:LT h) (z:d.Kids.length<=12) (ih:∀k∈d.Kids,Dc h T F sb t u k) (RC:p.length<=190) (N:∀x∈d.Kids,p.length+14+14 *iQ x<=200):
  (∀A tg I,Can T F ⟨A⟩->A.length+5000 *dV d.Kids<=138000->tg.length+dV d.Kids<=1000->Bk F tg I->
   Sim T F sb t u (λC ρ=>Sat h t sb C ρ d p) A I (A.length+5000 *dV d.Kids+2000) (tg.length+dV d.Kids) (kR h A true p d t tg) (oG d p h.Types h.bD u A I))/\
  ∀A tg,tg.length+dV d.Kids<=1000->Off t (tg.length+dV d.Kids) A (kR h A false p d t tg):=by
 have hfl:=H.hv.fl;have RD:=H.tl;have hh:aJ.mk h.Types h.bD=h:=rfl;have ct:∀s,f352 h s=some (jk h s):=λs=>Zg s h af
 have o1:d.Op≠1:=af;have o2:d.Op≠2:=af;have o3:d.Op≠3:=af;have o4:d.Op≠4:=af;have o5:d.Op≠5:=af;have U:e7 h p 0=p:=ai;have hq:=Cj H hT hF L hp d.Kids.length;have hql:(e7 h p d.Kids.length).length=p.length+d.Kids.length:=ai;have Q:∀C ρ,(El h t sb C ρ d.Kids p/\JH h sb C ud (e7 h p d.Kids.length))↔Sat h t sb C ρ d p:=λC ρ=>by rw[uu,az o1,az o2,az o3,az o4,az o5,aB D]
 refine⟨λA tg I hA hAx V S=> ?_,λA tg V=> ?_⟩
 .have K:=ad8 H hT hF L hp z ih (o:=⟨⟨[]⟩,false,[]⟩) d.Kids 0 A tg I rfl (λx hx=>by have:=N x hx;omega) hA af af S;rw[U,eF] at K;rcases K with⟨B,q,w,G,O,jc,jl,jr,jt,P⟩|⟨B,q,C,w,G,O,jt,P⟩
  .have pr:∀{b C},vY (e7 h p d.Kids.length) (jk h ud) h.Types h.bD u B w=some (b,C,w)->Hi t u->oG d p h.Types h.bD u A I=some (b,C,w):=λ{b C} S R=>by
    refine BT ?_;rw[D,cond_neg (by rfl),cond_neg (by rfl),cond_neg (by rfl),cond_neg (by rfl),cond_neg (by rfl),cond_pos (by rfl),Ke (O R),bG];simp only[];rw[au,hh,ct,aj,S,bG]
   rcases ad9 H hT hF jc L.nu hq af u q w with⟨C,k1,k2,k3,k4,k5⟩|⟨C,k1,k2,k5⟩
   .exact .inl ⟨C,q,w,fin6 H hT hF ht af D z G k1,pr k2,k3,by omega,jr,by omega,(P.comp k5).cg Q⟩
   .exact .inr ⟨C,q,B,w,fin6 H hT hF ht af D z G k1,pr k2,by omega,(IS.after P k5).imp λC ρ=>(Q C ρ).2⟩
  .refine .inr ⟨B,q,C,w,fin6 H hT hF ht af D z G (TT H hT B _ _ q),λR=>BT ?_,by omega,P.imp λC ρ a=>((Q C ρ).2 a).1⟩;rw[D,cond_neg (by rfl),cond_neg (by rfl),cond_neg (by rfl),cond_neg (by rfl),cond_neg (by rfl),cond_pos (by rfl),Ke (O R),bG];rfl
 .obtain⟨q,G,O⟩:=NN H hT hF L hp z ih (o:=⟨⟨[]⟩,false,[]⟩) d.Kids 0 A tg rfl (λx hx=>by have:=N x hx;omega) af;exact⟨q,fin6 H hT hF ht af D z G (TT H hT A _ _ q),af⟩
theorem Xo {d:bJ} {p:List Int} (hp:iE F p) (o8:d.Op=8) (L:LT h) (z:d.Kids.length<=12) (ih:∀k∈d.Kids,Dc h T F sb t u k) (RC:p.length<=190) (hpx:∀x∈d.Kids,p.length+14+14 *iQ x<=200):
  (∀A tg w,Can T F ⟨A⟩->A.length+5000 *dV d.Kids<=138000->tg.length+dV d.Kids<=1000->Bk F tg w->
   Sim T F sb t u (λC ρ=>Sat h t sb C ρ d p) A w (A.length+5000 *dV d.Kids+2000) (tg.length+dV d.Kids) (kR h A true p d t tg) (oG d p h.Types h.bD u A w))/\
  ∀A tg,tg.length+dV d.Kids<=1000->Off t (tg.length+dV d.Kids) A (kR h A false p d t tg):=by
 have hfl:=H.hv.fl;have RD:=H.tl;have hh:aJ.mk h.Types h.bD=h:=rfl;have ct:∀s,f352 h s=some (jk h s):=λs=>Zg s h af
 have o1:d.Op≠1:=af;have o2:d.Op≠2:=af;have o3:d.Op≠3:=af;have o4:d.Op≠4:=af;have o5:d.Op≠5:=af;have o6:d.Op≠6:=af;have o7:d.Op≠7:=af;have N:iE F (lZ h p):=hp.app (iE.rep (n:=1) (Af H hF L.he));have hpla:iE F (p++[eY h rC]):=hp.app (iE.rep (n:=1) (Af H hF L.la));have hq:=Cj H hT hF L N d.Kids.length;have hql:(e7 h (lZ h p) d.Kids.length).length=p.length+1+d.Kids.length:=aH;have hhl:(lZ h p).length=p.length+1:=ai;have hr1:e7 h (lZ h p) 0=lZ h p:=ai;have P:∀C ρ,(JH h sb C qT p/\El h t sb C ρ d.Kids (lZ h p)/\JH h sb C uc (e7 h (lZ h p) d.Kids.length)/\EqS (e7 h (lZ h p) d.Kids.length) (p++[eY h rC]) C)↔Sat h t sb C ρ d p:=λC ρ=>by rw[uu,az o1,az o2,az o3,az o4,az o5,az o6,az o7]
 refine⟨λA tg w hA hAx htx hr=> ?_,λA tg htx=> ?_⟩
 .have m1:∀B w,BU p [rB] h.Types h.bD u B w=some (lZ h p,B,w):=λB w=>aa8 af ai af
  have m2:∀B w,BU p [rC] h.Types h.bD u B w=some (p++[eY h rC],B,w):=λB w=>aa8 af ai af
  have I:∀{r B b},vY p (jk h qT) h.Types h.bD u A w=some (b,B,w)->(bif(!b) then some (false,B,w) else(eV (Nh d.Kids (lZ h p) h.Types h.bD u B w) λK R S=>
    bif K.2 then(eV (vY K.1 (jk h uc) h.Types h.bD u R S) λy294 U V=>bif y294 then(eV (Kh K.1 (p++[eY h rC]) h.Types h.bD u U V) λy304 w307 w308=>some (y304,w307,w308)) else(some (false,U,V))) else(some (false,R,S))))=some r->oG d p h.Types h.bD u A w=some r:=λ{r B b} g hr=>by
   refine BT ?_;rw[o8,cond_neg (by rfl),cond_neg (by rfl),cond_neg (by rfl),cond_neg (by rfl),cond_neg (by rfl),cond_neg (by rfl),cond_neg (by rfl),hh,ct,aj,g,bG,m1,bG];simp only[ct,aj,m2,bG];exact hr
  rcases ad9 H hT hF hA L.dl hp af u tg w with⟨A1,a1,a2,a3,a4,a5⟩|⟨A1,a1,a2,a5⟩
  .have els:=ad8 H hT hF L N z ih (o:=⟨⟨[]⟩,false,[]⟩) d.Kids 0 A1 tg w rfl (λx hx=>by have:=hpx x hx;omega) a3 af af hr;rw[hr1,eF] at els;rcases els with⟨B,q,G,O,j3,jc,jl,jr,jt,js⟩|⟨B,q,C,G,O,j3,jt,js⟩
   .rcases ad9 H hT hF jc L.li hq af u q G with⟨C,k1,k2,k3,k4,k5⟩|⟨C,k1,k2,k5⟩
    .rcases s_eq H hF k3 hq hpla af aH af u q G with⟨D,l1,l2,l3,l4,l6⟩|⟨D,l1,l2,l6⟩
     .have l5:(p++[eY h rC]).length=p.length+1:=ai;refine .inl ⟨D,q,G,Zy H hT hF ht af o8 z a1 O k1 l1,λQ=>I a2 ?_,l3,by omega,jr,by omega,(a5.comp (js.comp (k5.comp l6))).cg P⟩;rw[cond_neg (by rfl),Ke (j3 Q),bG];simp only[];rw[au,k2,bG,au,l2,bG]
     .refine .inr ⟨D,q,C,G,Zy H hT hF ht af o8 z a1 O k1 l1,λQ=>I a2 ?_,by omega,(IS.after a5 (IS.after js (IS.after k5 l6))).imp λC ρ=>(P C ρ).2⟩;rw[cond_neg (by rfl),Ke (j3 Q),bG];simp only[];rw[au,k2,bG,au,l2,bG]
    .refine .inr ⟨C,q,B,G,Zy H hT hF ht af o8 z a1 O k1 (adS C _ _ q),λQ=>I a2 ?_,by omega,(IS.after a5 (IS.after js k5)).imp λC ρ a=>⟨((P C ρ).2 a).1,((P C ρ).2 a).2.1,((P C ρ).2 a).2.2.1⟩⟩;rw[cond_neg (by rfl),Ke (j3 Q),bG];simp only[];rw[au,k2,bG,aA]
   .refine .inr ⟨B,q,C,G,Zy H hT hF ht af o8 z a1 O (TT H hT B _ _ q) (adS B _ _ q),λQ=>I a2 ?_,by omega,(IS.after a5 js).imp λC ρ a=>⟨((P C ρ).2 a).1,((P C ρ).2 a).2.1⟩⟩;rw[cond_neg (by rfl),Ke (j3 Q),bG];rfl
  .obtain⟨q,O,j3⟩:=NN H hT hF L N z ih (o:=⟨⟨[]⟩,false,[]⟩) d.Kids 0 A1 tg rfl (λx hx=>by have:=hpx x hx;omega) af;exact .inr ⟨A1,q,A,w,Zy H hT hF ht af o8 z a1 O (TT H hT A1 _ _ q) (adS A1 _ _ q),λQ=>I a2 (by rw[cond_pos (by rfl)]),by omega,a5.imp λC ρ a=>((P C ρ).2 a).1⟩
 .obtain⟨q,O,j3⟩:=NN H hT hF L N z ih (o:=⟨⟨[]⟩,false,[]⟩) d.Kids 0 A tg rfl (λx hx=>by have:=hpx x hx;omega) af;exact⟨q,Zy H hT hF ht af o8 z (TT H hT A p _ tg) O (TT H hT A _ _ q) (adS A _ _ q),af⟩
theorem UP (d:bJ):gu (Gd h t) d->Dc h T F sb t u d:=by
 refine og (P:=λd=>gu (Gd h t) d->Dc h T F sb t u d) (λd ih0 hd p hp RC=> ?_) d;have hfl:=H.hv.fl;have RD:=H.tl;have gd:=hd.here;have hkl:=gd.kl;have hpp:=gd.pl;have hop:=gd.fm.op;have ih:∀k∈d.Kids,Dc h T F sb t u k:=λk hk=>ih0 k hk (hd.kids k hk)
 have hdc:=DU d;have hh:aJ.mk h.Types h.bD=h:=rfl;have ct:∀s,f352 h s=some (jk h s):=λs=>Zg s h af
 have hr0:e7 h p 0=p:=ai;by_cases o1:d.Op=1
 .have Q:∀C ρ,JH h sb C d.Name p↔Sat h t sb C ρ d p:=λC ρ=>by rw[uu,aB o1]
  refine⟨λA tg z V hAx K I=> ?_,λA tg K=>⟨tg,Dq ?_,af⟩⟩
  .rcases ad9 H hT hF V (gd.kn.ty o1) hp af u tg z with⟨B,j1,G,N,j4,j5⟩|⟨B,j1,G,j5⟩
   .refine .inl ⟨B,tg,z,Dq ?_,λO=>BT ?_,N,by omega,I,by omega,j5.cg Q⟩
    .rw[o1,cond_pos (by rfl)];exact qK j1
    .rw[o1,cond_pos (by rfl),hh,ct,aj,oc];exact G
   .refine .inr ⟨B,tg,A,z,Dq ?_,λO=>BT ?_,by omega,j5.imp λC ρ=>(Q C ρ).2⟩
    .rw[o1,cond_pos (by rfl)];exact qK j1
    .rw[o1,cond_pos (by rfl),hh,ct,aj,oc];exact G
  .rw[o1,cond_pos (by rfl)];exact qK (TT H hT A p _ tg)
 by_cases o2:d.Op=2
 .obtain⟨i,x,q1,q2⟩:=gd.kn.tm o2;obtain⟨x1,x2⟩:=hs x (aV q2);have hil:=(bP.1 q2).1;have hx:t[i]=x:=(bP.1 q2).2;have Q:∀C ρ,DN sb p x.gO C↔Sat h t sb C ρ d p:=λC ρ=>by
   rw[uu,az o1,aB o2];refine⟨λa=>⟨i,x,q1,q2,a⟩,λ⟨i2,y,w1,w2,a⟩=> ?_⟩
   have:i2=i:=af
   subst this;rw[q2] at w2;cases w2;exact a
  have f515e:f515 t d.Name=some (i:Int):=by rw[Zh _ _ af,<-q1]
  have br:∀{A ok tg B b},f518 h A ok p x.gO tg=some (B,b,tg)->kR h A ok p d t tg=some (B,b,t,tg):=λ{A ok tg B b} I=>by refine Dq ?_;rw[o2,cond_neg (by rfl),cond_pos (by rfl),f515e,aj,BR hil,aZ,se hil,hx];exact qK I
  refine⟨λA tg z V hAx K I=> ?_,λA tg K=>⟨tg,br (o518 A p _ tg),af⟩⟩;have pr:∀{B b},Ng p x.gO h.Types h.bD u A z=some (b,B,z)->Hi t u->oG d p h.Types h.bD u A z=some (b,B,z):=λ{B b} I O=>by
   obtain⟨k,b,w1,w2⟩:=O.find d.Name;rcases w2 with⟨_,i2,y,w2,w3,w4⟩|⟨_,w2⟩
   .have:i2=i:=af
    subst this;rw[q2] at w3;cases w3;obtain⟨hkl,hky⟩:=bP.1 w4;refine BT ?_;rw[o2,cond_neg (by rfl),cond_pos (by rfl),w1,bG,cH hkl,hky,oc];exact I
   .omega
  rcases s_put H hF V x1 hp af u tg with⟨B,j1,G,N,j4,j5⟩|⟨B,j1,G,j5⟩
  .exact .inl ⟨B,tg,z,br j1,pr (G z),N,by omega,I,by omega,(Yx H.hv.hm.to V j5).cg Q⟩
  .exact .inr ⟨B,tg,A,z,br j1,pr (G z),by omega,λC ρ a b _ e=>j5 C a b ((Q C ρ).2 e)⟩
 by_cases o3:d.Op=3
 .have Q:∀C ρ,oN C p=some (ρ d.Name)↔Sat h t sb C ρ d p:=λC ρ=>by rw[uu,az o1,az o2,aB o3]
  have br:∀{A ok tg B b tg'},f519 h A ok p d.Name tg=some (B,b,tg')->kR h A ok p d t tg=some (B,b,t,tg'):=λ{A ok tg B b tg'} I=>by refine Dq ?_;rw[o3,cond_neg (by rfl),cond_neg (by rfl),cond_pos (by rfl)];exact qK I
  refine⟨λA tg z V hAx K I=> ?_,λA tg K=> ?_⟩
  .have pr:∀{r},Wy h u d.Name p A z=some r->oG d p h.Types h.bD u A z=some r:=λ{r} I=>by
    refine BT ?_;rw[o3,cond_neg (by rfl),cond_neg (by rfl),cond_pos (by rfl)];exact I
   rcases s_tag H hF V hp af af u I af (s:=d.Name) with⟨B,q,w,j1,G,N,j4,j5,j6,j7⟩|⟨B,q,w,j1,G,N,j7⟩
   .exact .inl ⟨B,q,w,br j1,λ_=>pr G,N,by omega,j5,by omega,j7.cg Q⟩
   .exact .inr ⟨B,q,A,w,br j1,λ_=>pr G,by omega,j7.imp λC ρ=>(Q C ρ).2⟩
  .obtain⟨q,j1,G⟩:=o519 (h:=h) (A:=A) (p:=p) (s:=d.Name) (tg:=tg) af;exact⟨q,br j1,af⟩
 by_cases o4:d.Op=4
 .have hh:=and_ok H hT hF (u:=u) ht hs hp o4 af ih (λx hx=>by have:=rf hx;omega);refine⟨λA tg z V hAx K I=> ?_,λA tg K=> ?_⟩
  .rcases hh.1 A tg z V af af I with⟨B,q,w,G,N,jc,jl,jr,jt,P⟩|⟨B,q,C,w,G,N,jt,P⟩
   .exact .inl ⟨B,q,w,G,N,jc,by omega,jr,by omega,P⟩
   .exact .inr ⟨B,q,C,w,G,N,by omega,P⟩
  .obtain⟨q,G,N⟩:=hh.2 A tg af;exact⟨q,G,af⟩
 by_cases o5:d.Op=5
 .have h1:=gd.fm.kd.one o5;obtain⟨k0,hke⟩:=EF.1 h1;have hk0:k0∈d.Kids:=by rw[hke];simp
  have hdk:dV d.Kids=iQ k0:=by rw[hke];simp[dV]
  have Q:∀C ρ,Sat h t sb C ρ k0 (p++d.Path.map (eY h))↔Sat h t sb C ρ d p:=λC ρ=>by rw[uu (d:=d),az o1,az o2,az o3,az o4,aB o5,hke,wR,wR];exact⟨λa=>⟨a,trivial⟩,λa=>a.1⟩
  have g0:∀{R:Type} (k:bJ->Option R),bq d.Kids 0 k=k k0:=λk=>by rw[hke];exact jE _ _ _
  have hq:iE F (p++d.Path.map (eY h)):=hp.app λf hf=>by obtain⟨s,hs,rfl⟩:=aD.1 hf;exact Af H hF (gd.kn.pt af s hs)
  have hik:=ih k0 hk0 _ hq (by rw[bQ,bf];omega);have br2:∀{A ok tg r},kR h A ok (p++d.Path.map (eY h)) k0 t tg=some r->kR h A ok p d t tg=some r:=λ{A ok tg r} I=>by refine Dq ?_;rw[o5,cond_neg (by rfl),cond_neg (by rfl),cond_neg (by rfl),cond_neg (by rfl),cond_pos (by rfl),cC _ ai af af,dK];exact h508p H hF af d.Path 0 p rfl af r (by rw[g0];exact I)
  have pr:∀{A z r},oG k0 (p++d.Path.map (eY h)) h.Types h.bD u A z=some r->oG d p h.Types h.bD u A z=some r:=λ{A z r} I=>by refine BT ?_;rw[o5,cond_neg (by rfl),cond_neg (by rfl),cond_neg (by rfl),cond_neg (by rfl),cond_pos (by rfl),g0,aa8 af af af,bG,oc];exact I
  refine⟨λA tg z V hAx K I=> ?_,λA tg K=> ?_⟩
  .rcases hik.1 A tg z V af af I with⟨B,q,w,G,N,jc,jl,jr,jt,P⟩|⟨B,q,C,w,G,N,jt,P⟩
   .exact .inl ⟨B,q,w,br2 G,λO=>pr (N O),jc,by omega,jr,by omega,P.cg Q⟩
   .exact .inr ⟨B,q,C,w,br2 G,λO=>pr (N O),by omega,P.imp λC ρ=>(Q C ρ).2⟩
  .obtain⟨q,G,N⟩:=hik.2 A tg af;exact⟨q,br2 G,af⟩
 have L:=gd.kn.ls af
 have fin:((∀A tg z,Can T F ⟨A⟩->A.length+5000 *dV d.Kids<=138000->tg.length+dV d.Kids<=1000->Bk F tg z->
   Sim T F sb t u (λC ρ=>Sat h t sb C ρ d p) A z (A.length+5000 *dV d.Kids+2000) (tg.length+dV d.Kids) (kR h A true p d t tg) (oG d p h.Types h.bD u A z))/\
  ∀A tg,tg.length+dV d.Kids<=1000->Off t (tg.length+dV d.Kids) A (kR h A false p d t tg))->(∀A tg z,Can T F ⟨A⟩->A.length+5000 *iQ d<=139400->tg.length+iQ d<=1000->Bk F tg z->
  Sim T F sb t u (λC ρ=>Sat h t sb C ρ d p) A z (A.length+5000 *iQ d) (tg.length+iQ d) (kR h A true p d t tg) (oG d p h.Types h.bD u A z))/\
 ∀A tg,tg.length+iQ d<=1000->Off t (tg.length+iQ d) A (kR h A false p d t tg):=λhh=>by
  refine⟨λA tg z V hAx K I=> ?_,λA tg K=> ?_⟩
  .rcases hh.1 A tg z V af af I with⟨B,q,w,G,N,jc,jl,jr,jt,P⟩|⟨B,q,C,w,G,N,jt,P⟩
   .exact .inl ⟨B,q,w,G,N,jc,by omega,jr,by omega,P⟩
   .exact .inr ⟨B,q,C,w,G,N,by omega,P⟩
  .obtain⟨q,G,N⟩:=hh.2 A tg af;exact⟨q,G,af⟩
 by_cases o6:d.Op=6
 .exact fin (Yc H hT hF ht hs hp o6 L hkl ih af λx hx=>by have:=rf hx;omega)
 by_cases o7:d.Op=7
 .have h2:=gd.fm.kd.two o7;obtain⟨n,hn⟩:∃n,d.Kids.length=n+1:=⟨d.Kids.length-1,af⟩
  have hnl:n<d.Kids.length:=af;have VF:(d.Kids.take n).length=n:=by rw[fh];omega
  have hdl:=Vi hn;have hq:=Cj H hT hF L hp n;have hql:(e7 h p n).length=p.length+n:=ai;have ih2:∀k∈d.Kids.take n,Dc h T F sb t u k:=λk hk=>ih k (vO hk)
  have S:=ih d.Kids[n] (bU hnl) _ hq af;have XH:=yJ d.Kids[n];have hke:d.Kids=d.Kids.take n++[d.Kids[n]]:=by have:=nK n d.Kids;rw[iW hnl,List.drop_of_length_le (by omega:d.Kids.length<=n+1)] at this;exact this.symm
  have Q:∀C ρ,(El h t sb C ρ (d.Kids.take n) p/\Sat h t sb C ρ d.Kids[n] (e7 h p n))↔Sat h t sb C ρ d p:=λC ρ=>by have:=TU (h:=h) (t:=t) (sb:=sb) (C:=C) (ρ:=ρ) (x:=d.Kids[n]) (l:=d.Kids.take n) (p:=p);rw[VF,<-hke] at this;rw[uu (d:=d),az o1,az o2,az o3,az o4,az o5,az o6,aB o7];exact this.symm
  refine⟨λA tg z V hAx K I=> ?_,λA tg K=> ?_⟩
  .have els:=ad8 H hT hF L hp af ih2 (o:=⟨⟨[]⟩,false,[]⟩) (d.Kids.take n) 0 A tg z rfl (λx hx=>by have:=rf hx;omega) V af af I;rw[hr0,eF,VF] at els;have e35:∀{r},CV p (d.Kids.take n) (n:Int) ((0:Nat):Int) h.Types h.bD u A z=some r->Nh (d.Kids.take n) p h.Types h.bD u A z=some r:=λ{r} I=>by
    refine Ke ?_;rw[VF];exact I
   rcases els with⟨B,q,w,G,N,jc,jl,jr,jt,P⟩|⟨B,q,C,w,G,N,jt,P⟩
   .have pr:∀{r},oG d.Kids[n] (e7 h p n) h.Types h.bD u B w=some r->Hi t u->oG d p h.Types h.bD u A z=some r:=λ{r} I O=>by
     refine BT ?_;rw[o7,cond_neg (by rfl),cond_neg (by rfl),cond_neg (by rfl),cond_neg (by rfl),cond_neg (by rfl),cond_neg (by rfl),cond_pos (by rfl),hn,qq af,bW ⟨af,af⟩,aZ,p7,e35 (N O),bG];simp only[];rw[au,cH hnl,oc];exact I
    rcases S.1 B q w jc af af jr with⟨C,U,Yg,k2,k3,kc,kl,kr,kt,ks⟩|⟨C,U,D,Yg,k2,k3,kt,ks⟩
    .exact .inl ⟨C,U,Yg,fin7 H hT hF ht af o7 hn af G k2,λO=>pr (k3 O) O,kc,by omega,kr,by omega,(P.comp ks).cg Q⟩
    .exact .inr ⟨C,U,D,Yg,fin7 H hT hF ht af o7 hn af G k2,λO=>pr (k3 O) O,by omega,(IS.after P ks).imp λC ρ=>(Q C ρ).2⟩
   .obtain⟨U,k2,k3⟩:=S.2 B q af;refine .inr ⟨B,U,C,w,fin7 H hT hF ht af o7 hn af G k2,λO=>BT ?_,by omega,P.imp λC ρ a=>((Q C ρ).2 a).1⟩;rw[o7,cond_neg (by rfl),cond_neg (by rfl),cond_neg (by rfl),cond_neg (by rfl),cond_neg (by rfl),cond_neg (by rfl),cond_pos (by rfl),hn,qq af,bW ⟨af,af⟩,aZ,p7,e35 (N O),bG];rfl
  .obtain⟨q,G,N⟩:=NN H hT hF L hp af ih2 (o:=⟨⟨[]⟩,false,[]⟩) (d.Kids.take n) 0 A tg rfl (λx hx=>by have:=rf hx;omega) af;obtain⟨U,k2,k3⟩:=S.2 A q af;exact⟨U,fin7 H hT hF ht af o7 hn af G k2,af⟩
 exact fin (Xo H hT hF ht hs hp af L hkl ih af λx hx=>by have:=rf hx;omega)
end
end Go.Proofs.YthphfjcnkinkpaaGreatDoor.cl.pf
namespace Go.Proofs.YthphfjcnkinkpaaGreatDoor.cl.pf
open Go Go.AM
def BRes (T F:Nat) (f:FSt) (e:Int):Prop:=(e=0/\Can T F f/\f.ak.length<=4096)\/(e≠0/\f=⟨[]⟩)
structure Lg (d:bJ):Prop where
 fm:Fm d
 kl:d.Kids.length<=12
 pl:d.Path.length<=4
def LD.lg {d:bJ} (hd:LD d):gu Lg d:=
 ((hd.fm.and hd.lt).and hd.sh).imp λd q=>⟨q.1.1,q.1.2.kl,q.2⟩
def Fin (x:Option (FSt×Bool)) (f:FSt) (e:Int):Prop:=∃y,x=some y/\(f,e)=(if y.2 then(if y.1.ak.length>4096 then(⟨[]⟩,7) else(y.1,0)) else(⟨[]⟩,12))
def Dd (h:aJ) (T F:Nat) (sb:Int->Int->Prop) (t:List Template) (d:bJ) (f:FSt) (e:Int):Prop:=
 (¬gu (Kn h t) d/\f=⟨[]⟩/\e=5)\/(gu (Kn h t) d/\
  ((∃B,Can T F B/\B.ak.length<=140000/\(∀C,Can T F C->Le sb B C->∃ρ,Sat h t sb C ρ d [])/\(∀C ρ,Can T F C->Sat h t sb C ρ d []->Le sb B C)/\Fin (f434 h B) f e)\/
   ((∀C ρ,Can T F C->Sat h t sb C ρ d []->False)/\f=⟨[]⟩/\e=12)))
def Dd.kn {h:aJ} {T F:Nat} {sb:Int->Int->Prop} {t:List Template} {d:bJ} {f:FSt} {e:Int} (q:Dd h T F sb t d f e) (z:e=0):gu (Kn h t) d:=by
 rcases q with⟨_,_,w⟩|⟨a,_⟩
 .omega
 .exact a
section
variable {h:aJ} {T F:Nat} {sb:Int->Int->Prop} {bN:Int->Int} {val:Int->Int->Int} (H:HX h T F sb bN val) (hT:T<=1000) (hF:F<=300) {t u:List Template} (ht:t.length<=1000) (hs:UM T F t)
include H in
theorem ab7 {f:FSt} {D G:Option (FSt×Bool)} (L:UL T sb bN val f D) (N:UL T sb bN val f G):D=G:=by
 rcases L with⟨a,e1,w,I⟩|⟨e1,O⟩<;>rcases N with⟨b,B,z,K⟩|⟨B,P⟩
 .have Q:Br sb bN val f (λn=>a.getD n 0):=λn q=>⟨w.up n q,I n q⟩
  have R:Br sb bN val f (λn=>b.getD n 0):=λn q=>⟨z.up n q,K n q⟩
  have:a=b:=abB (w.len.trans z.len.symm) λn q=>by rw[w.len] at q;exact H.hv.hm.to.anti (w.dD _ R n q) (z.dD _ Q n q)
  rw[e1,B,this]
 .exact(P _ λn q=>⟨w.up n q,I n q⟩).elim
 .exact(O _ λn q=>⟨z.up n q,K n q⟩).elim
 .rw[e1,B]
include H hT hF ht hs
theorem RY (uL:0<T) {d:bJ} (hd:gu Fm d) (hadd:gu (Kn h t) d->∃n k,n<=140000/\Sim T F sb t u (λC ρ=>Sat h t sb C ρ d []) [⟨0,[]⟩] [] n k (kR h [⟨0,[]⟩] true [] d t []) (oG d [] h.Types h.bD u [⟨0,[]⟩] [])):∃f e,Nd h d t=some ((f,e),t)/\(Hi t u->f500 h u d=some (f,e))/\BRes T F f e/\Dd h T F sb t d f e:=by
 obtain⟨b,k1,k2,k3⟩:=c507 H hT hF (u:=u) ht d hd;have mk:∀{f e},(∃C L,abC d h.Types h.bD u [] []=some ((f,e),C,L))->f500 h u d=some (f,e):=λ{f e} D=>by obtain⟨C,L,D⟩:=D;refine e500 ?_;rw[e505 rfl,zY,D,bG]
 cases b with
 |false=>
  refine⟨⟨[]⟩,5,e501a ?_,λG=>mk ⟨[],[],e506a ?_⟩, .inr ⟨by decide,rfl⟩, .inl ⟨λG=>(by have:=k3.2 G;cases this),rfl,rfl⟩⟩
  .rw[k1,aj,cond_pos (by rfl)]
  .rw[k2 G,bG,cond_pos (by rfl)]
 |true=>
  have kn:=k3.1 rfl;obtain⟨n,k,hn,hsim⟩:=hadd kn;have hc1:Can T F ⟨[⟨0,[]⟩]⟩:=Fy H hF ⟨af,af⟩;have top:∀C,Can T F C->Le sb ⟨[⟨0,[]⟩]⟩ C:=λC I=>by
   have:=(OE (T:=T) (F:=F) (π:=[]) (t:=0) H.hv.hm.to ai ⟨jK 0,af⟩ I).2 ⟨0,rfl,by
    have:=I.go.tp 0 I.ne
    exact H.hv.hm.to.top this.1 this.2⟩
   exact this
  have V:∀C ρ,Tg C ρ []:=λC ρ s q hq=>by rw[Kr] at hq;cases hq
  have r2:∀{A b tg f e},kR h [⟨0,[]⟩] true [] d t []=some (A,b,t,tg)->(bif(!b) then(some ((FSt.mk ([]:List Node)),(12:Int))) else(Option.bind (f441 h (FSt.mk A)) λz=>bif(!z.2) then(some ((FSt.mk ([]:List Node)),12)) else(bif(decide ((length z.1.ak:Int)>4096)) then(some ((FSt.mk ([]:List Node)),7)) else(some (z.1,0)))))=some (f,e)->Nd h d t=some ((f,e),t):=λ{A b tg f e} g D=>by refine e501a ?_;rw[k1,aj,cond_neg (by rfl),c414,aj];show yD Hf [⟨_,[]⟩] ([[]].map some) _=_;rw[qc rfl];show mA (kR h [⟨0,[]⟩] true [] d t []) _=_;rw[g,cF];revert D;cases b with
   |false=>intro D;rw[cond_pos (by rfl)] at D⊢;cases D;rfl
   |true=>intro D;rw[cond_neg (by rfl)] at D⊢;cases e4:f441 h ⟨A⟩ with
    |none=>rw[e4] at D;cases D
    |some y=>rw[e4,aj] at D;rw[aj];cases h2:(!y.2) with
     |true=>rw[h2,au] at D;rw[au];cases D;rfl
     |false=>rw[h2,aA] at D;rw[aA];cases h3:decide ((y.1.ak.length:Int)>4096) with
      |true=>rw[h3,au] at D;rw[au];cases D;rfl
      |false=>rw[h3,aA] at D;rw[aA];cases D;rfl
  have r3:∀{A b L f e},Hi t u->oG d [] h.Types h.bD u [⟨0,[]⟩] []=some (b,A,L)->(bif(!b) then(some ((FSt.mk ([]:List Node)),(12:Int))) else(Option.bind (f434 h (FSt.mk A)) λz=>bif(!z.2) then(some ((FSt.mk ([]:List Node)),12)) else(bif(decide ((length z.1.ak:Int)>4096)) then(some ((FSt.mk ([]:List Node)),7)) else(some (z.1,0)))))=some (f,e)->f500 h u d=some (f,e):=λ{A b L f e} G g D=>by refine mk ⟨A,L,e506a ?_⟩;rw[k2 G,bG,cond_neg (by rfl),bW ⟨af,by omega,by decide,af⟩];show eV (oG d [] h.Types h.bD u [⟨0,[]⟩] []) _=_;rw[g,bG];revert D;show _->(bif !b then _ else Option.bind (f434 h ⟨A⟩) _)=_;cases b with
   |false=>intro D;rw[cond_pos (by rfl)] at D⊢;cases D;rfl
   |true=>intro D;rw[cond_neg (by rfl)] at D⊢;cases e4:f434 h ⟨A⟩ with
    |none=>rw[e4] at D;cases D
    |some y=>rw[e4,aj] at D;rw[aj];cases h2:(!y.2) with
     |true=>rw[h2,au] at D;rw[au];cases D;rfl
     |false=>rw[h2,aA] at D;rw[aA];cases h3:decide ((y.1.ak.length:Int)>4096) with
      |true=>rw[h3,au] at D;rw[au];cases D;rfl
      |false=>rw[h3,aA] at D;rw[aA];cases D;rfl
  rcases hsim with⟨A,tg,L,g2,g3,gc,gl,gr,gt,gs⟩|⟨A,tg,B,L,g2,g3,gt,gs⟩
  .have P:(FSt.mk A).ak.length<=140000:=by
    show A.length<=140000;omega
   have i1:=c434 H.hv gc P hT af;have i2:=c441 H.hv gc P af;have ie:=ab7 H i1 i2;obtain⟨ρ,hρ⟩:=gs.ex ⟨λ_=>0,V _ _⟩
   have bs:∀{f e},Fin (f434 h ⟨A⟩) f e->Dd h T F sb t d f e:=λ{f e} hf=> .inr ⟨kn, .inl ⟨⟨A⟩,gc,P,λC I hle=>(by
    obtain⟨ρ',h'⟩:=Tg.up gc I hle hρ
    exact⟨ρ',((gs.iff _ _ I).2 ⟨hle,h'⟩).2.2⟩),λC ρ I hS=>((gs.iff _ _ I).1 ⟨top C I,V _ _,hS⟩).1,hf⟩⟩
   rcases i2 with⟨tl,K,S,w⟩|⟨K,_⟩
   .have hcr:Can T F (Bh ⟨A⟩ tl):=gc.Bh S.len S.rg;have R:(Bh ⟨A⟩ tl).ak.length=A.length:=vC S.len;have O:∀{x},x=some (Bh ⟨A⟩ tl,true)->(bif(!true) then(some ((FSt.mk ([]:List Node)),(12:Int))) else(Option.bind x λz=>bif(!z.2) then(some ((FSt.mk ([]:List Node)),12)) else(bif(decide ((length z.1.ak:Int)>4096)) then(some ((FSt.mk ([]:List Node)),7)) else(some (z.1,0)))))=if A.length>4096 then some (⟨[]⟩,7) else some (Bh ⟨A⟩ tl,0):=λ{x} U=>by
     rw[cond_neg (by rfl),U,aj,cond_neg (by rfl),R];by_cases Q:A.length>4096
     .rw[aB Q,cond_pos (by rw[bA];omega)]
     .rw[az Q,cond_neg (by rw[aS];omega)]
    by_cases Q:A.length>4096
    .have N:∀{x},x=some (Bh ⟨A⟩ tl,true)->_:=λ{x} U=>(O U).trans (aB Q)
     exact⟨_,_,r2 g2 (N K),λG=>r3 G (g3 G) (N (ie.trans K)), .inr ⟨by decide,rfl⟩,bs ⟨_,ie.trans K,by rw[aB rfl,aB (by rw[R];exact Q)]⟩⟩
    .have N:∀{x},x=some (Bh ⟨A⟩ tl,true)->_:=λ{x} U=>(O U).trans (az Q)
     exact⟨_,_,r2 g2 (N K),λG=>r3 G (g3 G) (N (ie.trans K)), .inl ⟨rfl,hcr,af⟩,bs ⟨_,ie.trans K,by rw[aB rfl,az (by rw[R];exact Q)]⟩⟩
   .have N:∀{x},x=some (⟨[]⟩,false)->(bif(!true) then(some ((FSt.mk ([]:List Node)),(12:Int))) else(Option.bind x λz=>bif(!z.2) then(some ((FSt.mk ([]:List Node)),12)) else(bif(decide ((length z.1.ak:Int)>4096)) then(some ((FSt.mk ([]:List Node)),7)) else(some (z.1,0)))))=some (⟨[]⟩,12):=λ{x} U=>by
     rw[cond_neg (by rfl),U,aj,cond_pos (by rfl)]
    exact⟨_,_,r2 g2 (N K),λG=>r3 G (g3 G) (N (ie.trans K)), .inr ⟨by decide,rfl⟩,bs ⟨_,ie.trans K,rfl⟩⟩
  .exact⟨⟨[]⟩,12,r2 g2 (by rw[cond_pos (by rfl)]),λG=>r3 G (g3 G) (by rw[cond_pos (by rfl)]), .inr ⟨by decide,rfl⟩, .inr ⟨kn, .inr ⟨λC ρ I hS=>gs C ρ I (top C I) (V _ _) hS,rfl,rfl⟩⟩⟩
theorem yF (w:0<T) {d:bJ} (hd:gu Lg d) (D:iQ d<=14):∃f e,Nd h d t=some ((f,e),t)/\(Hi t u->f500 h u d=some (f,e))/\BRes T F f e/\Dd h T F sb t d f e:=
 RY H hT hF ht hs w (hd.imp λd q=>q.fm) λkn=>by
  have z:gu (Gd h t) d:=(hd.and kn).imp λd q=>⟨q.1.fm,q.1.kl,q.1.pl,q.2⟩
  refine⟨1+5000 *iQ d,0+iQ d,by omega,(UP H hT hF ht hs d z [] (by intro f B;cases B) aH).1 [⟨0,[]⟩] [] [] (Fy H hF ⟨af,af⟩) aH aH .nil⟩
end
end Go.Proofs.YthphfjcnkinkpaaGreatDoor.cl.pf
namespace Go.Proofs.YthphfjcnkinkpaaGreatDoor.cl.pf
open Go Go.AM
section
variable {h:aJ} {t:List Template} {sb:Int->Int->Prop} {C:FSt} {ρ ρ':ck->Nat}
def y9:∀{l:List bJ} {p:List Int},wR h t sb C ρ l p↔∀x∈l,Sat h t sb C ρ x p
 |[],p=>by rw[wR];simp
 |x::l,p=>by rw[wR,y9 (l:=l),List.forall_mem_cons]
variable {g:bJ->bJ}
def Xr:∀{l:List bJ} {p:List Int},(∀x∈l,∀p,Sat h t sb C ρ' (g x) p↔Sat h t sb C ρ x p)->(El h t sb C ρ' (l.map g) p↔El h t sb C ρ l p)
 |[],p,_=>by rw[ey,El,El]
 |x::l,p,hs=>by rw[bH,El,El,hs x ai,Xr (l:=l) λy q=>hs y (by simp[q])]
def Yo:∀{l:List bJ} {p:List Int},(∀x∈l,∀p,Sat h t sb C ρ' (g x) p↔Sat h t sb C ρ x p)->(RB h t sb C ρ' (l.map g) p↔RB h t sb C ρ l p)
 |[],p,_=>by rw[ey,RB,RB]
 |x::l,p,hs=>by rw[bH,RB,RB,hs x ai,hs x ai,Yo (l:=l) λy q=>hs y (by simp[q])];simp
def aeb {l:List bJ} {p:List Int} (hs:∀x∈l,∀p,Sat h t sb C ρ' (g x) p↔Sat h t sb C ρ x p):wR h t sb C ρ' (l.map g) p↔wR h t sb C ρ l p:=by
 rw[y9,y9]
 exact⟨λa x q=>(hs x q p).1 (a _ (lP q)),λa y w=>by
  obtain⟨x,q,rfl⟩:=aD.1 w
  exact(hs x q p).2 (a x q)⟩
end
end Go.Proofs.YthphfjcnkinkpaaGreatDoor.cl.pf
namespace Go.Proofs.YthphfjcnkinkpaaGreatDoor.cl.pf
open Go Go.AM
abbrev Nmd (P:ck->Prop) (d:bJ):Prop:=gu (λd=>d.Op=2->P d.Name) d
def h548 {d:bJ} (hl:d.Kids.length<=256) (z:∀k∈d.Kids,∀w:List (List UInt8),w.length+iQ k<=1000000->∃q,f548 k w=some q/\q.length<=w.length+iQ k/\∀P,Nmd P k->(∀s∈w,P s)->∀s∈q,P s):∀(xs:List bJ) (i:Nat) (w:List (List UInt8)),d.Kids.drop i=xs->w.length+dV xs<=1000000->∃q,G8 i d w=some q/\q.length<=w.length+dV xs/\∀P,(∀k∈xs,Nmd P k)->(∀s∈w,P s)->∀s∈q,P s:=by intro xs;induction xs with
 |nil=>intro i w hd G;exact⟨w,adn (by rw[bp hd,aA]),by omega,λP _ h=>h⟩
 |cons x xs K=>
  intro i w hd G;have I:x∈d.Kids:=by
   have:x∈d.Kids.drop i:=by rw[hd];exact gm ..
   exact iY this
  have U:dV (x::xs)=iQ x+dV xs:=by rw[dV]
  obtain⟨O,e,R,L⟩:=z x I w af;obtain⟨Q,D,S,N⟩:=K (i+1) O (aI hd) af;exact⟨Q,adn (by rw[aT hd,au,aK hd,e,aj,aQ hd af];exact D),by omega,λP B h=>N P (λk z=>B k (dz _ z)) (L P (B x ai) h)⟩
def c548 (d:bJ):gu Fm d->∀w:List (List UInt8),w.length+iQ d<=1000000->∃q,f548 d w=some q/\q.length<=w.length+iQ d/\∀P,Nmd P d->(∀s∈w,P s)->∀s∈q,P s:=by induction d using og with
 |h d L=>
  intro I w K;have hl:=I.here.kl;have B:=λk B=>L k B (I.kids k B)
  have N:=DU d;by_cases D:d.Op=2
  .cases G:(w.any λx=>x==d.Name) with
   |true=>obtain⟨q,e,h,p⟩:=h548 hl B d.Kids 0 w rfl af;exact⟨q,e548 (by rw[cond_pos (by simpa using D),c555 _ _ af,G,aj,dM,aA];exact e),by omega,λP z=>p P z.kids⟩
   |false=>
    obtain⟨q,e,h,p⟩:=h548 hl B d.Kids 0 (w++[d.Name]) rfl (by rw[bQ,c4];omega);rw[bQ,c4] at h;exact⟨q,e548 (by rw[cond_pos (by simpa using D),c555 _ _ af,G,aj,fN,au,nS ⟨by simp only[c4];omega,by simp only[c4];omega⟩];exact e),by omega,λP z K=>p P z.kids λs hs=>(bu.1 hs).elim (K s) λhs=>by rw[cz.1 hs];exact z.here D⟩
  .obtain⟨q,e,h,p⟩:=h548 hl B d.Kids 0 w rfl af;exact⟨q,e548 (by rw[cond_neg (by simpa using D)];exact e),by omega,λP z=>p P z.kids⟩
def h546 {x:Def} (B:Y4 x):∀(xs:List bJ) (i:Nat) (w:List (List UInt8)),x.eX.drop i=xs->w.length+12 *xs.length<=1000000->∃D,Rh i x w=some D/\D.length<=w.length+12 *xs.length:=by intro xs;induction xs with
 |nil=>intro i w hd z;exact⟨w,adl (by rw[bp hd,aA]),af⟩
 |cons y xs L=>
  intro i w hd z;have K:y∈x.eX:=by
   have:y∈x.eX.drop i:=by rw[hd];exact gm ..
   exact iY this
  have q:=B.df y K;have:=q.cnt;have I:=B.dl;rw[bz] at z⊢;obtain⟨N,e,P,_⟩:=c548 y q.fm w af;obtain⟨O,G,Q⟩:=L (i+1) N (aI hd) af;exact⟨O,adl (by rw[aT hd,au,aK hd,e,aj,aQ hd af];exact G),af⟩
def c546 {x:Def} (q:Y4 x):∃w,f546 x=some w/\w.length<=48:=by have G:=q.st.cnt;have B:=q.dl;obtain⟨w,e,h,_⟩:=c548 x.gO q.st.fm [] (by rw[eO];omega);rw[eO] at h;obtain⟨D,z,I⟩:=h546 q x.eX 0 w rfl af;exact⟨D,e546 (by rw[e,aj];exact z),af⟩
def rdy (q:List ck) (w:List ck):Bool:=w.all λs=>q.any λn=>n==s
def Lc {q:Type} (p:q->Bool) (l:List q) (i:Nat):decide (sQ p l i<0)= !(l.any p):=by
 rcases pg p l i with⟨w,z⟩|⟨k,x,w,z,B,_⟩
 .simp_all
 grind
def h547 {t:List Template} (ht:t.length<=1000) {l:List ck} (hl:l.length<=1000):∀(xs:List ck) (i:Nat),l.drop i=xs->Ri t l i=some (rdy (t.map (·.Name)) xs):=by intro xs;induction xs with
 |nil=>intro i hd;refine adm ?_;rw[bp hd];rfl
 |cons x xs q=>intro i hd;refine adm ?_;rw[aT hd,aK hd,Zh _ _ af,aj,Lc,aQ hd af,q _ (aI hd)];unfold rdy;grind
def c547 {t:List Template} (ht:t.length<=1000) {x:Def} (q:Y4 x):∃w,f546 x=some w/\f547 t x=some (rdy (t.map (·.Name)) w):=by obtain⟨w,e,h⟩:=c546 q;refine⟨w,e,e547 ?_⟩;rw[e,aj];exact h547 ht af w 0 rfl
noncomputable def nd (x:Def):List ck:=(f546 x).getD []
noncomputable def nxt (ns:List ck) (l:List Def):List Def->Nat->Int->Int
 |[],_,q=>q
 |x::xs,i,q=>nxt ns l xs (i+1) (if(!(ns.any λn=>n==x.Name))&&(rdy ns (nd x)&&(decide (q<0)||Op.bytesLess x.Name ((l[q.toNat]?.map (·.Name)).getD []))) then(i:Int) else q)
def h526 {t:List Template} (ht:t.length<=1000) {l:List Def} (hl:l.length<=1000) (hd:∀x∈l,Y4 x):∀(xs:List Def) (i:Nat) (q:Int),l.drop i=xs->(q= -1\/∃b:Nat,q=b/\b<l.length)->
  sM t l q i=some (nxt (t.map (·.Name)) l xs i q)/\(nxt (t.map (·.Name)) l xs i q= -1\/∃b:Nat,nxt (t.map (·.Name)) l xs i q=b/\b<l.length):=by
 intro xs;induction xs with
 |nil=>intro i q z B;exact⟨adj (by rw[bp z,aA];rfl),B⟩
 |cons x xs ih=>
  intro i q z B;have N:i<l.length:=by have:=aP length z;simp only[lT,bz] at this;omega
  have hx:x∈l:=by
   have:x∈l.drop i:=by rw[z];exact gm ..
   exact iY this
  obtain⟨w,e,hr⟩:=c547 ht (hd x hx);have O:nd x=w:=by unfold nd;rw[e];rfl
  have D:((t.map (·.Name)).any λn=>n==x.Name)=t.any λy=>y.Name==x.Name:=List.any_map
  obtain⟨i1,i2⟩:=ih (i+1) i (aI z) (.inr ⟨i,rfl,N⟩);obtain⟨Q,R⟩:=ih (i+1) q (aI z) B;have pre:∀r,(bif decide (sQ (λy=>y.Name==x.Name) t 0<0) then(bif rdy (t.map (·.Name)) w then(bif decide (q<0) then sM t l i ((i+1:Nat):Int) else bq l i λI=>bq l q λK=>bif Op.bytesLess I.Name K.Name then sM t l i ((i+1:Nat):Int) else sM t l q ((i+1:Nat):Int)) else sM t l q ((i+1:Nat):Int)) else sM t l q ((i+1:Nat):Int))=some r->sM t l q i=some r:=λr h=>by refine adj ?_;rw[aT z,au,aK z,Zh _ _ af,aj,aK z,hr,aj,aQ z af];exact h
  simp only[nxt,D,O];rw[Lc] at pre;cases S:(t.any λy=>y.Name==x.Name) with
  |true=>rw[S] at pre;refine⟨pre _ (by rw[dM,aA];rw[az ai];exact Q),?_⟩;rw[az ai];exact R
  |false=>rw[S,fN,au] at pre;cases V:rdy (t.map (·.Name)) w with
   |false=>rw[V,aA] at pre;refine⟨pre _ (by rw[az ai];exact Q),?_⟩;rw[az ai];exact R
   |true=>
    rw[V,au] at pre;rcases B with B|⟨b,B,G⟩
    .subst B;refine⟨pre _ (by rw[cond_pos (by rfl),aB ai];exact i1),?_⟩;rw[aB ai];exact i2
    .subst B;rw[cond_neg (by rw[aS];omega),cH N,cH G] at pre;have P:l[i]=x:=by
      have:=aP List.head? z;rw[List.head?_drop] at this;rw[aM N] at this;simpa using this
     rw[P] at pre;have L:((l[((b:Nat):Int).toNat]?.map (·.Name)).getD [])=l[b].Name:=by rw[aZ,aM G];rfl
     rw[L,vj (by omega:¬((b:Nat):Int)<0)];cases U:Op.bytesLess x.Name l[b].Name with
     |true=>rw[U,au] at pre;refine⟨pre _ (by rw[aB ai];exact i1),?_⟩;rw[aB ai];exact i2
     |false=>rw[U,aA] at pre;refine⟨pre _ (by rw[az ai];exact Q),?_⟩;rw[az ai];exact R
def c526 {t:List Template} (ht:t.length<=1000) {l:List Def} (hl:l.length<=1000) (hd:∀x∈l,Y4 x):f526 t l=some (nxt (t.map (·.Name)) l l 0 (-1))/\(nxt (t.map (·.Name)) l l 0 (-1)= -1\/∃b:Nat,nxt (t.map (·.Name)) l l 0 (-1)=b/\b<l.length):=by obtain⟨q,w⟩:=h526 ht hl hd l 0 _ rfl (.inl rfl);exact⟨e526 q,w⟩
end Go.Proofs.YthphfjcnkinkpaaGreatDoor.cl.pf
namespace Go.Proofs.YthphfjcnkinkpaaGreatDoor.cl.pf
open Go Go.AM
inductive Seq (l:List Def):List ck->Prop
 |fin {ns:List ck}:l.length<=ns.length->Seq l ns
 |step {ns:List ck} {b:Nat} (x:Def):ns.length<l.length->nxt ns l l 0 (-1)=b->l[b]? =some x->Seq l (ns++[x.Name])->Seq l ns
section
variable {l:List Def} (hl:l.length<=4) (hd:∀x∈l,Y4 x)
include hl hd
theorem h512_16:∀(n:Nat) (t:List Template),l.length<=t.length+n->t.length<=l.length->∃r,Jw l t=some r/\(r=0->Seq l (t.map (·.Name))):=by intro n;induction n with
 |zero=>intro t D G;exact⟨0,I8 (by rw[cond_neg (by rw[aS];omega)]),λ_=> .fin (by rw[bf];omega)⟩
 |succ n I=>
  intro t D G;by_cases K:t.length<l.length
  .obtain⟨e,q⟩:=c526 (t:=t) af af hd;rcases q with q|⟨b,q,w⟩
   .exact⟨6,I8 (by rw[cond_pos (by rw[bA];omega),e,aj,cond_pos (by rw[bA];omega)]),λh=>by omega⟩
   .obtain⟨r,z,h⟩:=I (t++[⟨l[b].Name,⟨[]⟩,[]⟩]) (by rw[bQ,c4];omega) (by rw[bQ,c4];omega);refine⟨r,I8 ?_,λB=> ?_⟩
    .rw[cond_pos (by rw[bA];omega),e,aj,q,cond_neg (by rw[aS];omega),cH w,nS ⟨by simp only[c4];omega,by simp only[c4];omega⟩];exact z
    .have:=h B;rw[cE] at this;exact .step l[b] (by rw[bf];omega) q (aM w) this
  .exact⟨0,I8 (by rw[cond_neg (by rw[aS];omega)]),λ_=> .fin (by rw[bf];omega)⟩
theorem h512_11 {i:Nat} {w:List ck} (G:w.length<=1000) (z:∃r,L5 l ((i+1:Nat):Int)=some r/\(r=0->Seq l [])) (D:i<l.length):∀(xs:List ck) (k:Nat),w.drop k=xs->∃r,Jv l i w k=some r/\(r=0->Seq l []):=by intro xs;induction xs with
 |nil=>intro k q;obtain⟨r,e,h⟩:=z;exact⟨r,Pj (by rw[bp q,aA,bM af];exact e),h⟩
 |cons x xs B=>
  intro k q;obtain⟨r,e,h⟩:=B (k+1) (aI q);by_cases hp:sQ (λy=>y.Name==x) l 0<0
  .exact⟨5,Pj (by rw[aT q,au,aK q,c539 _ _ af,aj,cond_pos (by rw[bA];exact hp)]),λh=>by omega⟩
  .exact⟨r,Pj (by rw[aT q,au,aK q,c539 _ _ af,aj,cond_neg (by rw[aS];exact hp),aQ q af];exact e),h⟩
theorem h512_7:∀(xs:List Def) (i:Nat),l.drop i=xs->∃r,L5 l i=some r/\(r=0->Seq l []):=by intro xs;induction xs with
 |nil=>intro i q;obtain⟨r,e,h⟩:=h512_16 hl hd l.length [] ai ai;exact⟨r,adf (by rw[bp q,aA];exact e),h⟩
 |cons x xs G=>
  intro i q;have B:i<l.length:=by have:=aP length q;simp only[lT,bz] at this;omega
  have D:x∈l:=by
   have:x∈l.drop i:=by rw[q];exact gm ..
   exact iY this
  obtain⟨w,e,I⟩:=c546 (hd x D);obtain⟨r,z,h⟩:=h512_11 hl hd af (G (i+1) (aI q)) B w 0 rfl;exact⟨r,adf (by rw[aT q,au,aK q,e,aj];exact z),h⟩
theorem h512_2:∀(xs:List Def) (i:Nat),l.drop i=xs->∃r,QZ l i=some r/\(r=0->Seq l []/\∀j,i<=j->∀x,l[j]? =some x->sQ (λy=>y.Name==x.Name) l 0=(j:Int)):=by intro xs;induction xs with
 |nil=>
  intro i q;obtain⟨r,e,h⟩:=h512_7 hl hd l 0 rfl;refine⟨r,VV (by rw[bp q,aA];exact e),λw=>⟨h w,λj I x G=> ?_⟩⟩;have L:l.length<=i:=by have:=aP length q;simp only[lT,eO] at this;omega
  rw[gA af] at G;cases G
 |cons x xs K=>
  intro i q;obtain⟨r,e,h⟩:=K (i+1) (aI q);by_cases hp:sQ (λy=>y.Name==x.Name) l 0=(i:Int)
  .refine⟨r,VV (by rw[aT q,au,aK q,c539 _ _ af,aj,hp,cond_neg (by rw[bne_self_eq_false]),aQ q af];exact e),λw=>⟨(h w).1,λj I y z=> ?_⟩⟩;by_cases B:j=i
   .subst B;have D:l[j]? =some x:=by
     have:=aP List.head? q;rw[List.head?_drop] at this;exact this
    have z:=fe (D.symm.trans z);rw[<-z];exact hp
   .exact(h w).2 j af y z
  .exact⟨4,VV (by rw[aT q,au,aK q,c539 _ _ af,aj,cond_pos (by rw[nG];exact hp)]),λh=>absurd h (by decide)⟩
theorem c512:∃r,f512 l=some r/\(r=0->Seq l []/\∀(j:Nat) (x:Def),l[j]? =some x->sQ (λy=>y.Name==x.Name) l 0=(j:Int)):=by obtain⟨r,e,h⟩:=h512_2 hl hd l 0 rfl;exact⟨r,e512 e,λq=>⟨(h q).1,λj x w=>(h q).2 j (cS _) x w⟩⟩
end
