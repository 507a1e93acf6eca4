/- Build. -/
import Derived.Test.YtbnlhmaaccgbjaaGreatDoorClWb
import Derived.Test.YtbnlhmaaccgbjaaGreatDoorClWl
set_option linter.all false
open List (length)
namespace Go.Proofs.YtbnlhmaaccgbjaaGreatDoor.cl.pf
open Go Go.AM
structure Gd (h:aN) (t:List Template) (d:aQ):Prop where
 fm:Fm d
 kl:d.Kids.length<=12
 pl:d.Path.length<=4
 kn:Kn h t d
def Cr:∀(l m:List aQ),eU (l++m)=eU l+eU m
 |[],m=>by simp[eU]
 |x::l,m=>by simp only[gi,eU,Cr l m];omega
def UU {l:List aQ} {n:Nat} (h:l.length=n+1):eU l=eU (l.take n)+oN (l[n]'(by omega)):=by
 have e:l=l.take n++[l[n]'(by omega)]:=by have:=lY n l;rw[iJ (by omega:n<l.length),List.drop_of_length_le (by omega:l.length<=n+1)] at this;exact this.symm
 have q:eU (l.take n++[l[n]'(by omega)])=_:=Cr _ _;rw[<-e] at q;rw[q];simp[eU]
section
variable {h:aN} {T F:Nat} {sb:Int->Int->Prop} {bS:Int->Int} {val:Int->Int->Int} (H:HX h T F sb bS val) (hT:T<=1000) (hF:F<=300) {t u:List Template} (ht:t.length<=1000) (hs:YX T F t)
include H hT hF ht
section
variable {d:aQ} {p:List Int} (hp:p.length<=200) {A:List Node} {ok:Bool} {tg:List tag}
include hp
theorem fin6 (O:d.Op=6) (P:d.Kids.length<=12) {w z:List Node} {B D:Bool} {l q:List tag} (K:vt p d.Kids (0:Nat) h A ok ⟨⟨[]⟩,false,[]⟩ t tg=some (w,B,t,l)) (L:f517 h w B (gb h p d.Kids.length) yH l=some (z,D,q)):
  oZ h A ok p d t tg=some (z,D,t,q):=by
 have N:=H.hv.fl;have G:f521 p (gP h tY) (d.Kids.length:Int)=some (gb h p d.Kids.length):=Oe af;have I:=abi K;refine C6 ?_;rw[O,cond_neg (by rfl),cond_neg (by rfl),cond_neg (by rfl),cond_neg (by rfl),cond_neg (by rfl),cond_pos (by rfl),I,cK,zF _ _ af,aj,G,aj];exact qL L
theorem fin7 (P:d.Op=7) {n:Nat} (O:d.Kids.length=n+1) (Q:n<=12) {w z:List Node} {B D:Bool} {l q:List tag} (K:vt p (d.Kids.take n) (0:Nat) h A ok ⟨⟨[]⟩,false,[]⟩ t tg=some (w,B,t,l)) (L:oZ h w B (gb h p n) (d.Kids[n]'(by omega)) t l=some (z,D,t,q)):
  oZ h A ok p d t tg=some (z,D,t,q):=by
 have N:=H.hv.fl;have G:f521 p (gP h tY) (n:Int)=some (gb h p n):=Oe af;have I:=abi K;refine C6 ?_;rw[P,cond_neg (by rfl),cond_neg (by rfl),cond_neg (by rfl),cond_neg (by rfl),cond_neg (by rfl),cond_neg (by rfl),cond_pos (by rfl),O,oz af,bU ⟨af,af⟩,bg,p9,I,cK,zF _ _ af,aj,G,aj,cO af,Rx];exact L
theorem Zs (ho:d.Op=8) (hk:d.Kids.length<=12) {w z B D:List Node} {G I K L:Bool} {l q:List tag} (Q:f517 h A ok p uy tg=some (w,G,tg)) (R:vt (qt h p) d.Kids (0:Nat) h w G ⟨⟨[]⟩,false,[]⟩ t tg=some (z,I,t,l)) (S:f517 h z I (gb h (qt h p) d.Kids.length) yG l=some (B,K,l)) (U:f522 h B K (gb h (qt h p) d.Kids.length) (p++[gP h tX]) l=some (D,L,q)):
  oZ h A ok p d t tg=some (D,L,t,q):=by
 have V:=H.hv.fl;have N:f521 (qt h p) (gP h tY) (d.Kids.length:Int)=some (gb h (qt h p) d.Kids.length):=Oe aH;have c2:f521 p (gP h Fx) 1=some (qt h p):=Oe (n:=1) af;have O:f521 p (gP h tX) 1=some (p++[gP h tX]):=Oe (n:=1) af;have P:=abi R;refine C6 ?_;rw[ho,cond_neg (by rfl),cond_neg (by rfl),cond_neg (by rfl),cond_neg (by rfl),cond_neg (by rfl),cond_neg (by rfl),cond_neg (by rfl),Q,bI,zF _ _ af,aj,c2,aj,P,cK,zF _ _ af,aj,N,aj,S,bI,zF _ _ af,aj,O,aj];exact qL U
end
include hs
theorem aaP {d:aQ} {p:List Int} (hp:jJ F p) (R:d.Op=4) (hkl:d.Kids.length<=256) (U:∀k∈d.Kids,Jp h T F sb t u k) (I:∀x∈d.Kids,p.length+14 *oN x<=200):
  (∀A tg w,Can T F ⟨A⟩->A.length+5000 *eU d.Kids<=139400->tg.length+eU d.Kids<=1000->Ea F tg w->
   Sim T F sb t u (λC ρ=>Sat h t sb C ρ d p) A w (A.length+5000 *eU d.Kids+400) (tg.length+eU d.Kids) (oZ h A true p d t tg) (rj d p h.Types h.bJ u A w))/\
  ∀A tg,tg.length+eU d.Kids<=1000->Off t (tg.length+eU d.Kids) A (oZ h A false p d t tg):=by
 have S:∀C ρ,yT h t sb C ρ d.Kids p↔Sat h t sb C ρ d p:=λC ρ=>by rw[qv,au af,au af,au af,aB R]
 have q:∀{A ok tg B b G},wE p d.Kids.length (0:Nat) h A ok d ⟨⟨[]⟩,false,[]⟩ t tg=some (B,b,t,G)->oZ h A ok p d t tg=some (B,b,t,G):=λ{A ok tg B b G} K=>by refine C6 ?_;rw[R,cond_neg (by rfl),cond_neg (by rfl),cond_neg (by rfl),cond_pos (by rfl)];exact K
 refine⟨λA tg w hA hAx P K=> ?_,λA tg P=> ?_⟩
 .have V:∀{v B z},CL d.Kids d.Kids.length (0:Nat) p h.Types h.bJ u A w=some (v,B,z)->rj d p h.Types h.bJ u A w=some (!(decide (v>=0)),B,z):=λ{v B z} K=>by
   refine Bx ?_;rw[R,cond_neg (by rfl),cond_neg (by rfl),cond_neg (by rfl),cond_pos (by rfl),e533b (by rw[e543b K,bI]),bI]
  rcases s_and hp af U (o:=⟨⟨[]⟩,false,[]⟩) d.Kids 0 A tg w rfl I hA af af K with⟨B,l,D,L,N,jc,jl,jr,jt,Q⟩|⟨B,l,C,D,v,L,N,jv,jt,Q⟩
  .exact .inl ⟨B,l,D,q L,λO=>V (N O),jc,by omega,jr,by omega,Q.cg S⟩
  .refine .inr ⟨B,l,C,D,q L,λO=> ?_,by omega,Q.imp λC ρ=>(S C ρ).2⟩;rw[V (N O),show decide (v>=0)=true from qb jv];rfl
 .obtain⟨l,L,N⟩:=o_and hp af U (o:=⟨⟨[]⟩,false,[]⟩) d.Kids 0 A tg rfl I af;exact⟨l,q L,af⟩
theorem aaM (d:aQ):fE (Gd h t) d->Jp h T F sb t u d:=by
 refine j8 (P:=λd=>fE (Gd h t) d->Jp h T F sb t u d) (λd ih0 hd p hp Ul=> ?_) d;have hfl:=H.hv.fl;have Vq:=H.tl;have gd:=hd.here;have G:=gd.kl;have hpp:=gd.pl;have hop:=gd.fm.op;have ih:∀k∈d.Kids,Jp h T F sb t u k:=λk hk=>ih0 k hk (hd.kids k hk)
 have hdc:=zH d;have hh:aN.mk h.Types h.bJ=h:=rfl;have ct:∀s,f352 h s=some (mQ h s):=λs=>c352 s h af
 have hr0:gb h p 0=p:=ai;by_cases o1:d.Op=1
 .have P:∀C ρ,Uu h sb C d.Name p↔Sat h t sb C ρ d p:=λC ρ=>by rw[qv,aB o1]
  refine⟨λA tg z U hAx N I=> ?_,λA tg N=>⟨tg,C6 ?_,af⟩⟩
  .rcases ad3 H hT hF U (gd.kn.ty o1) hp af u tg z with⟨B,j1,w,K,j4,j5⟩|⟨B,j1,w,j5⟩
   .refine .inl ⟨B,tg,z,C6 ?_,λO=>Bx ?_,K,by omega,I,by omega,j5.cg P⟩
    .rw[o1,cond_pos (by rfl)];exact qL j1
    .rw[o1,cond_pos (by rfl),hh,ct,aj,od];exact w
   .refine .inr ⟨B,tg,A,z,C6 ?_,λO=>Bx ?_,by omega,j5.imp λC ρ=>(P C ρ).2⟩
    .rw[o1,cond_pos (by rfl)];exact qL j1
    .rw[o1,cond_pos (by rfl),hh,ct,aj,od];exact w
  .rw[o1,cond_pos (by rfl)];exact qL (Tl H hT A p _ tg)
 by_cases o2:d.Op=2
 .obtain⟨i,x,q1,q2⟩:=gd.kn.tm o2;obtain⟨x1,x2⟩:=hs x (aZ q2);have hil:=(bQ.1 q2).1;have hx:t[i]=x:=(bQ.1 q2).2;have P:∀C ρ,Mc sb p x.jH C↔Sat h t sb C ρ d p:=λC ρ=>by
   rw[qv,au o1,aB o2];refine⟨λa=>⟨i,x,q1,q2,a⟩,λ⟨i2,y,w1,w2,a⟩=> ?_⟩
   have:i2=i:=af
   subst this;rw[q2] at w2;cases w2;exact a
  have f515e:f515 t d.Name=some (i:Int):=by rw[Y9 _ _ af,<-q1]
  have br:∀{A ok tg B b},f518 h A ok p x.jH tg=some (B,b,tg)->oZ h A ok p d t tg=some (B,b,t,tg):=λ{A ok tg B b} I=>by refine C6 ?_;rw[o2,cond_neg (by rfl),cond_pos (by rfl),f515e,aj,Bu hil,bg,tf hil,hx];exact qL I
  refine⟨λA tg z U hAx N I=> ?_,λA tg N=>⟨tg,br (o518 A p _ tg),af⟩⟩;have pr:∀{B b},MZ p x.jH h.Types h.bJ u A z=some (b,B,z)->G4 t u->rj d p h.Types h.bJ u A z=some (b,B,z):=λ{B b} I O=>by
   obtain⟨k,b,w1,w2⟩:=O.find d.Name;rcases w2 with⟨_,i2,y,w2,w3,w4⟩|⟨_,w2⟩
   .have:i2=i:=af
    subst this;rw[q2] at w3;cases w3;obtain⟨G,hky⟩:=bQ.1 w4;refine Bx ?_;rw[o2,cond_neg (by rfl),cond_pos (by rfl),w1,bI,cO G,hky,od];exact I
   .omega
  rcases s_put H hF U x1 hp af u tg with⟨B,j1,w,K,j4,j5⟩|⟨B,j1,w,j5⟩
  .exact .inl ⟨B,tg,z,br j1,pr (w z),K,by omega,I,by omega,(Yp H.hv.hm.to U j5).cg P⟩
  .exact .inr ⟨B,tg,A,z,br j1,pr (w z),by omega,λC ρ a b _ e=>j5 C a b ((P C ρ).2 e)⟩
 by_cases o3:d.Op=3
 .have P:∀C ρ,xY C p=some (ρ d.Name)↔Sat h t sb C ρ d p:=λC ρ=>by rw[qv,au o1,au o2,aB o3]
  have br:∀{A ok tg B b tg'},f519 h A ok p d.Name tg=some (B,b,tg')->oZ h A ok p d t tg=some (B,b,t,tg'):=λ{A ok tg B b tg'} I=>by refine C6 ?_;rw[o3,cond_neg (by rfl),cond_neg (by rfl),cond_pos (by rfl)];exact qL I
  refine⟨λA tg z U hAx N I=> ?_,λA tg N=> ?_⟩
  .have pr:∀{r},Wj h u d.Name p A z=some r->rj d p h.Types h.bJ u A z=some r:=λ{r} I=>by
    refine Bx ?_;rw[o3,cond_neg (by rfl),cond_neg (by rfl),cond_pos (by rfl)];exact I
   rcases s_tag H hF U hp af af u I af (s:=d.Name) with⟨B,l,q,j1,w,K,j4,j5,j6,j7⟩|⟨B,l,q,j1,w,K,j7⟩
   .exact .inl ⟨B,l,q,br j1,λ_=>pr w,K,by omega,j5,by omega,j7.cg P⟩
   .exact .inr ⟨B,l,A,q,br j1,λ_=>pr w,by omega,j7.imp λC ρ=>(P C ρ).2⟩
  .obtain⟨l,j1,w⟩:=o519 (h:=h) (A:=A) (p:=p) (s:=d.Name) (tg:=tg) af;exact⟨l,br j1,af⟩
 by_cases o4:d.Op=4
 .have hh:=aaP H hT hF (u:=u) ht hs hp o4 af ih (λx hx=>by have:=Gh hx;omega);refine⟨λA tg z U hAx N I=> ?_,λA tg N=> ?_⟩
  .rcases hh.1 A tg z U af af I with⟨B,l,q,w,K,jc,jl,jr,jt,Q⟩|⟨B,l,C,q,w,K,jt,Q⟩
   .exact .inl ⟨B,l,q,w,K,jc,by omega,jr,by omega,Q⟩
   .exact .inr ⟨B,l,C,q,w,K,by omega,Q⟩
  .obtain⟨l,w,K⟩:=hh.2 A tg af;exact⟨l,w,af⟩
 by_cases o5:d.Op=5
 .have h1:=gd.fm.kd.one o5;obtain⟨k0,hke⟩:=Ek.1 h1;have hk0:k0∈d.Kids:=by rw[hke];simp
  have hdk:eU d.Kids=oN k0:=by rw[hke];simp[eU]
  have P:∀C ρ,Sat h t sb C ρ k0 (p++d.Path.map (gP h))↔Sat h t sb C ρ d p:=λC ρ=>by rw[qv (d:=d),au o1,au o2,au o3,au o4,aB o5,hke,yT,yT];exact⟨λa=>⟨a,trivial⟩,λa=>a.1⟩
  have g0:∀{R:Type} (k:aQ->Option R),bA d.Kids 0 k=k k0:=λk=>by rw[hke];exact jK _ _ _
  have hq:jJ F (p++d.Path.map (gP h)):=hp.app λf hf=>by obtain⟨s,hs,rfl⟩:=aD.1 hf;exact Cv H hF (gd.kn.pt af s hs)
  have hik:=ih k0 hk0 _ hq (by rw[cF,bz];omega);have br2:∀{A ok tg r},oZ h A ok (p++d.Path.map (gP h)) k0 t tg=some r->oZ h A ok p d t tg=some r:=λ{A ok tg r} I=>by refine C6 ?_;rw[o5,cond_neg (by rfl),cond_neg (by rfl),cond_neg (by rfl),cond_neg (by rfl),cond_pos (by rfl),cC _ ai af af,dK];exact h508p H hF af d.Path 0 p rfl af r (by rw[g0];exact I)
  have pr:∀{A z r},rj k0 (p++d.Path.map (gP h)) h.Types h.bJ u A z=some r->rj d p h.Types h.bJ u A z=some r:=λ{A z r} I=>by refine Bx ?_;rw[o5,cond_neg (by rfl),cond_neg (by rfl),cond_neg (by rfl),cond_neg (by rfl),cond_pos (by rfl),g0,aa0 af af af,bI,od];exact I
  refine⟨λA tg z U hAx N I=> ?_,λA tg N=> ?_⟩
  .rcases hik.1 A tg z U af af I with⟨B,l,q,w,K,jc,jl,jr,jt,Q⟩|⟨B,l,C,q,w,K,jt,Q⟩
   .exact .inl ⟨B,l,q,br2 w,λO=>pr (K O),jc,by omega,jr,by omega,Q.cg P⟩
   .exact .inr ⟨B,l,C,q,br2 w,λO=>pr (K O),by omega,Q.imp λC ρ=>(P C ρ).2⟩
  .obtain⟨l,w,K⟩:=hik.2 A tg af;exact⟨l,br2 w,af⟩
 have L:=gd.kn.ls af;by_cases o6:d.Op=6
 .have hq:=BW H hT hF L hp d.Kids.length;have hql:(gb h p d.Kids.length).length=p.length+d.Kids.length:=ai;have P:∀C ρ,(Jq h t sb C ρ d.Kids p/\Uu h sb C yH (gb h p d.Kids.length))↔Sat h t sb C ρ d p:=λC ρ=>by rw[qv,au o1,au o2,au o3,au o4,au o5,aB o6]
  refine⟨λA tg z U hAx N I=> ?_,λA tg N=> ?_⟩
  .have S:=ad2 H hT hF L hp G ih (o:=⟨⟨[]⟩,false,[]⟩) d.Kids 0 A tg z rfl af U af af I;rw[hr0,eO] at S;rcases S with⟨B,l,q,w,K,jc,jl,jr,jt,Q⟩|⟨B,l,C,q,w,K,jt,Q⟩
   .have pr:∀{b C},vO (gb h p d.Kids.length) (mQ h yH) h.Types h.bJ u B q=some (b,C,q)->G4 t u->rj d p h.Types h.bJ u A z=some (b,C,q):=λ{b C} I O=>by
     refine Bx ?_;rw[o6,cond_neg (by rfl),cond_neg (by rfl),cond_neg (by rfl),cond_neg (by rfl),cond_neg (by rfl),cond_pos (by rfl),JZ (K O),bI];simp only[];rw[ak,hh,ct,aj,I,bI]
    rcases ad3 H hT hF jc L.nu hq af u l q with⟨C,k1,V,k3,k4,k5⟩|⟨C,k1,V,k5⟩
    .exact .inl ⟨C,l,q,fin6 H hT hF ht af o6 G w k1,pr V,k3,by omega,jr,by omega,(Q.comp k5).cg P⟩
    .exact .inr ⟨C,l,B,q,fin6 H hT hF ht af o6 G w k1,pr V,by omega,(IE.after Q k5).imp λC ρ=>(P C ρ).2⟩
   .refine .inr ⟨B,l,C,q,fin6 H hT hF ht af o6 G w (Tl H hT B _ _ l),λO=>Bx ?_,by omega,Q.imp λC ρ a=>((P C ρ).2 a).1⟩;rw[o6,cond_neg (by rfl),cond_neg (by rfl),cond_neg (by rfl),cond_neg (by rfl),cond_neg (by rfl),cond_pos (by rfl),JZ (K O),bI];rfl
  .obtain⟨l,w,K⟩:=Ny H hT hF L hp G ih (o:=⟨⟨[]⟩,false,[]⟩) d.Kids 0 A tg rfl af af;exact⟨l,fin6 H hT hF ht af o6 G w (Tl H hT A _ _ l),af⟩
 by_cases o7:d.Op=7
 .have h2:=gd.fm.kd.two o7;obtain⟨n,hn⟩:∃n,d.Kids.length=n+1:=⟨d.Kids.length-1,af⟩
  have hnl:n<d.Kids.length:=af;have Vp:(d.Kids.take n).length=n:=by rw[fJ];omega
  have hdl:=UU hn;have hq:=BW H hT hF L hp n;have hql:(gb h p n).length=p.length+n:=ai;have ih2:∀k∈d.Kids.take n,Jp h T F sb t u k:=λk hk=>ih k (vG hk)
  have abO:=ih d.Kids[n] (cG hnl) _ hq af;have Xu:=JY d.Kids[n];have hke:d.Kids=d.Kids.take n++[d.Kids[n]]:=by have:=lY n d.Kids;rw[iJ hnl,List.drop_of_length_le (by omega:d.Kids.length<=n+1)] at this;exact this.symm
  have P:∀C ρ,(Jq h t sb C ρ (d.Kids.take n) p/\Sat h t sb C ρ d.Kids[n] (gb h p n))↔Sat h t sb C ρ d p:=λC ρ=>by have:=Tm (h:=h) (t:=t) (sb:=sb) (C:=C) (ρ:=ρ) (x:=d.Kids[n]) (l:=d.Kids.take n) (p:=p);rw[Vp,<-hke] at this;rw[qv (d:=d),au o1,au o2,au o3,au o4,au o5,au o6,aB o7];exact this.symm
  refine⟨λA tg z U hAx N I=> ?_,λA tg N=> ?_⟩
  .have S:=ad2 H hT hF L hp af ih2 (o:=⟨⟨[]⟩,false,[]⟩) (d.Kids.take n) 0 A tg z rfl af U af af I;rw[hr0,eO,Vp] at S;have e35:∀{r},CK p (d.Kids.take n) (n:Int) ((0:Nat):Int) h.Types h.bJ u A z=some r->M0 (d.Kids.take n) p h.Types h.bJ u A z=some r:=λ{r} I=>by
    refine JZ ?_;rw[Vp];exact I
   rcases S with⟨B,l,q,w,K,jc,jl,jr,jt,Q⟩|⟨B,l,C,q,w,K,jt,Q⟩
   .have pr:∀{r},rj d.Kids[n] (gb h p n) h.Types h.bJ u B q=some r->G4 t u->rj d p h.Types h.bJ u A z=some r:=λ{r} I O=>by
     refine Bx ?_;rw[o7,cond_neg (by rfl),cond_neg (by rfl),cond_neg (by rfl),cond_neg (by rfl),cond_neg (by rfl),cond_neg (by rfl),cond_pos (by rfl),hn,oz af,bU ⟨af,af⟩,bg,p9,e35 (K O),bI];simp only[];rw[ak,cO hnl,od];exact I
    rcases abO.1 B l q jc af af jr with⟨C,tg2,X3,V,k3,kc,kl,kr,kt,ks⟩|⟨C,tg2,D,X3,V,k3,kt,ks⟩
    .exact .inl ⟨C,tg2,X3,fin7 H hT hF ht af o7 hn af w V,λO=>pr (k3 O) O,kc,by omega,kr,by omega,(Q.comp ks).cg P⟩
    .exact .inr ⟨C,tg2,D,X3,fin7 H hT hF ht af o7 hn af w V,λO=>pr (k3 O) O,by omega,(IE.after Q ks).imp λC ρ=>(P C ρ).2⟩
   .obtain⟨tg2,V,k3⟩:=abO.2 B l af;refine .inr ⟨B,tg2,C,q,fin7 H hT hF ht af o7 hn af w V,λO=>Bx ?_,by omega,Q.imp λC ρ a=>((P C ρ).2 a).1⟩;rw[o7,cond_neg (by rfl),cond_neg (by rfl),cond_neg (by rfl),cond_neg (by rfl),cond_neg (by rfl),cond_neg (by rfl),cond_pos (by rfl),hn,oz af,bU ⟨af,af⟩,bg,p9,e35 (K O),bI];rfl
  .obtain⟨l,w,K⟩:=Ny H hT hF L hp af ih2 (o:=⟨⟨[]⟩,false,[]⟩) (d.Kids.take n) 0 A tg rfl af af;obtain⟨tg2,V,k3⟩:=abO.2 A l af;exact⟨tg2,fin7 H hT hF ht af o7 hn af w V,af⟩
 have o8:d.Op=8:=af;have hp1:jJ F (qt h p):=hp.app (jJ.rep (n:=1) (Cv H hF L.he));have hpla:jJ F (p++[gP h tX]):=hp.app (jJ.rep (n:=1) (Cv H hF L.la));have hq:=BW H hT hF L hp1 d.Kids.length;have hql:(gb h (qt h p) d.Kids.length).length=p.length+1+d.Kids.length:=aH;have hhl:(qt h p).length=p.length+1:=ai;have hr1:gb h (qt h p) 0=qt h p:=ai;have P:∀C ρ,(Uu h sb C uy p/\Jq h t sb C ρ d.Kids (qt h p)/\Uu h sb C yG (gb h (qt h p) d.Kids.length)/\EqS (gb h (qt h p) d.Kids.length) (p++[gP h tX]) C)↔Sat h t sb C ρ d p:=λC ρ=>by rw[qv,au o1,au o2,au o3,au o4,au o5,au o6,au o7]
 refine⟨λA tg z U hAx N I=> ?_,λA tg N=> ?_⟩
 .have m1:∀B z,By p [Fx] h.Types h.bJ u B z=some (qt h p,B,z):=λB z=>aa0 af ai af
  have m2:∀B z,By p [tX] h.Types h.bJ u B z=some (p++[gP h tX],B,z):=λB z=>aa0 af ai af
  have pr0:∀{r B b},vO p (mQ h uy) h.Types h.bJ u A z=some (b,B,z)->(bif(!b) then some (false,B,z) else(e9 (M0 d.Kids (qt h p) h.Types h.bJ u B z) λy287 w290 w291=>
    bif y287.2 then(e9 (vO y287.1 (mQ h yG) h.Types h.bJ u w290 w291) λy294 w297 w298=>bif y294 then(e9 (J7 y287.1 (p++[gP h tX]) h.Types h.bJ u w297 w298) λy304 w307 w308=>some (y304,w307,w308)) else(some (false,w297,w298))) else(some (false,w290,w291))))=some r->rj d p h.Types h.bJ u A z=some r:=λ{r B b} g I=>by
   refine Bx ?_;rw[o8,cond_neg (by rfl),cond_neg (by rfl),cond_neg (by rfl),cond_neg (by rfl),cond_neg (by rfl),cond_neg (by rfl),cond_neg (by rfl),hh,ct,aj,g,bI,m1,bI];simp only[ct,aj,m2,bI];exact I
  rcases ad3 H hT hF U L.dl hp af u tg z with⟨A1,a1,a2,a3,a4,a5⟩|⟨A1,a1,a2,a5⟩
  .have S:=ad2 H hT hF L hp1 G ih (o:=⟨⟨[]⟩,false,[]⟩) d.Kids 0 A1 tg z rfl af a3 af af I;rw[hr1,eO] at S;rcases S with⟨B,l,q,w,K,jc,jl,jr,jt,Q⟩|⟨B,l,C,q,w,K,jt,Q⟩
   .rcases ad3 H hT hF jc L.li hq af u l q with⟨C,k1,V,k3,k4,k5⟩|⟨C,k1,V,k5⟩
    .rcases s_eq H hF k3 hq hpla af aH af u l q with⟨D,l1,l2,l3,l4,l6⟩|⟨D,l1,l2,l6⟩
     .have l5:(p++[gP h tX]).length=p.length+1:=ai;refine .inl ⟨D,l,q,Zs H hT hF ht af o8 G a1 w k1 l1,λO=>pr0 a2 ?_,l3,by omega,jr,by omega,(a5.comp (Q.comp (k5.comp l6))).cg P⟩;rw[cond_neg (by rfl),JZ (K O),bI];simp only[];rw[ak,V,bI,ak,l2,bI]
     .refine .inr ⟨D,l,C,q,Zs H hT hF ht af o8 G a1 w k1 l1,λO=>pr0 a2 ?_,by omega,(IE.after a5 (IE.after Q (IE.after k5 l6))).imp λC ρ=>(P C ρ).2⟩;rw[cond_neg (by rfl),JZ (K O),bI];simp only[];rw[ak,V,bI,ak,l2,bI]
    .refine .inr ⟨C,l,B,q,Zs H hT hF ht af o8 G a1 w k1 (adM C _ _ l),λO=>pr0 a2 ?_,by omega,(IE.after a5 (IE.after Q k5)).imp λC ρ a=>⟨((P C ρ).2 a).1,((P C ρ).2 a).2.1,((P C ρ).2 a).2.2.1⟩⟩;rw[cond_neg (by rfl),JZ (K O),bI];simp only[];rw[ak,V,bI,az]
   .refine .inr ⟨B,l,C,q,Zs H hT hF ht af o8 G a1 w (Tl H hT B _ _ l) (adM B _ _ l),λO=>pr0 a2 ?_,by omega,(IE.after a5 Q).imp λC ρ a=>⟨((P C ρ).2 a).1,((P C ρ).2 a).2.1⟩⟩;rw[cond_neg (by rfl),JZ (K O),bI];rfl
  .obtain⟨l,w,K⟩:=Ny H hT hF L hp1 G ih (o:=⟨⟨[]⟩,false,[]⟩) d.Kids 0 A1 tg rfl af af;exact .inr ⟨A1,l,A,z,Zs H hT hF ht af o8 G a1 w (Tl H hT A1 _ _ l) (adM A1 _ _ l),λO=>pr0 a2 (by rw[cond_pos (by rfl)]),by omega,a5.imp λC ρ a=>((P C ρ).2 a).1⟩
 .obtain⟨l,w,K⟩:=Ny H hT hF L hp1 G ih (o:=⟨⟨[]⟩,false,[]⟩) d.Kids 0 A tg rfl af af;exact⟨l,Zs H hT hF ht af o8 G (Tl H hT A p _ tg) w (Tl H hT A _ _ l) (adM A _ _ l),af⟩
end
end Go.Proofs.YtbnlhmaaccgbjaaGreatDoor.cl.pf
namespace Go.Proofs.YtbnlhmaaccgbjaaGreatDoor.cl.pf
open Go Go.AM
def BRes (T F:Nat) (f:FSt) (e:Int):Prop:=(e=0/\Can T F f/\f.aA.length<=4096)\/(e≠0/\f=⟨[]⟩)
structure Lg (d:aQ):Prop where
 fm:Fm d
 kl:d.Kids.length<=12
 pl:d.Path.length<=4
def LD.lg {d:aQ} (l:LD d):fE Lg d:=
 ((l.fm.and l.lt).and l.sh).imp λd q=>⟨q.1.1,q.1.2.kl,q.2⟩
def Fin (x:Option (FSt×Bool)) (f:FSt) (e:Int):Prop:=∃y,x=some y/\(f,e)=(if y.2 then(if y.1.aA.length>4096 then(⟨[]⟩,7) else(y.1,0)) else(⟨[]⟩,12))
def AX (h:aN) (T F:Nat) (sb:Int->Int->Prop) (t:List Template) (d:aQ) (f:FSt) (e:Int):Prop:=
 (¬fE (Kn h t) d/\f=⟨[]⟩/\e=5)\/(fE (Kn h t) d/\
  ((∃B,Can T F B/\B.aA.length<=140000/\(∀C,Can T F C->Le sb B C->∃ρ,Sat h t sb C ρ d [])/\(∀C ρ,Can T F C->Sat h t sb C ρ d []->Le sb B C)/\Fin (f434 h B) f e)\/
   ((∀C ρ,Can T F C->Sat h t sb C ρ d []->False)/\f=⟨[]⟩/\e=12)))
def AX.kn {h:aN} {T F:Nat} {sb:Int->Int->Prop} {t:List Template} {d:aQ} {f:FSt} {e:Int} (l:AX h T F sb t d f e) (w:e=0):fE (Kn h t) d:=by
 rcases l with⟨_,_,q⟩|⟨a,_⟩
 .omega
 .exact a
section
variable {h:aN} {T F:Nat} {sb:Int->Int->Prop} {bS:Int->Int} {val:Int->Int->Int} (H:HX h T F sb bS val) (hT:T<=1000) (hF:F<=300) {t u:List Template} (ht:t.length<=1000) (hs:YX T F t)
include H in
theorem abZ {f:FSt} {B D:Option (FSt×Bool)} (K:Us T sb bS val f B) (L:Us T sb bS val f D):B=D:=by
 rcases K with⟨a,e1,q,G⟩|⟨e1,N⟩<;>rcases L with⟨b,z,w,I⟩|⟨z,O⟩
 .have P:A3 sb bS val f (λn=>a.getD n 0):=λn l=>⟨q.up n l,G n l⟩
  have Q:A3 sb bS val f (λn=>b.getD n 0):=λn l=>⟨w.up n l,I n l⟩
  have:a=b:=abt (q.len.trans w.len.symm) λn l=>by rw[q.len] at l;exact H.hv.hm.to.anti (q.dD _ Q n l) (w.dD _ P n l)
  rw[e1,z,this]
 .exact(O _ λn l=>⟨q.up n l,G n l⟩).elim
 .exact(N _ λn l=>⟨w.up n l,I n l⟩).elim
 .rw[e1,z]
include H hT hF ht hs
theorem RB (vk:0<T) {d:aQ} (hd:fE Fm d) (hadd:fE (Kn h t) d->∃n k,n<=140000/\Sim T F sb t u (λC ρ=>Sat h t sb C ρ d []) [⟨0,[]⟩] [] n k (oZ h [⟨0,[]⟩] true [] d t []) (rj d [] h.Types h.bJ u [⟨0,[]⟩] [])):∃f e,MX h d t=some ((f,e),t)/\(G4 t u->f500 h u d=some (f,e))/\BRes T F f e/\AX h T F sb t d f e:=by
 obtain⟨b,k1,k2,k3⟩:=c507 H hT hF (u:=u) ht d hd;have mk:∀{f e},(∃C K,abu d h.Types h.bJ u [] []=some ((f,e),C,K))->f500 h u d=some (f,e):=λ{f e} z=>by obtain⟨C,K,z⟩:=z;refine e500 ?_;rw[e505 rfl,zB,z,bI]
 cases b with
 |false=>
  refine⟨⟨[]⟩,5,e501a ?_,λD=>mk ⟨[],[],e506a ?_⟩, .inr ⟨by decide,rfl⟩, .inl ⟨λD=>(by have:=k3.2 D;cases this),rfl,rfl⟩⟩
  .rw[k1,aj,cond_pos (by rfl)]
  .rw[k2 D,bI,cond_pos (by rfl)]
 |true=>
  have kn:=k3.1 rfl;obtain⟨n,k,hn,hsim⟩:=hadd kn;have hc1:Can T F ⟨[⟨0,[]⟩]⟩:=IX H hF ⟨af,af⟩;have top:∀C,Can T F C->Le sb ⟨[⟨0,[]⟩]⟩ C:=λC G=>by
   have:=(Oq (T:=T) (F:=F) (π:=[]) (t:=0) H.hv.hm.to ai ⟨jQ 0,af⟩ G).2 ⟨0,rfl,by
    have:=G.go.tp 0 G.ne
    exact H.hv.hm.to.top this.1 this.2⟩
   exact this
  have U:∀C ρ,Tg C ρ []:=λC ρ s q hq=>by rw[Kg] at hq;cases hq
  have r2:∀{A b tg f e},oZ h [⟨0,[]⟩] true [] d t []=some (A,b,t,tg)->(bif(!b) then(some ((FSt.mk ([]:List Node)),(12:Int))) else(Option.bind (f441 h (FSt.mk A)) λl=>bif(!l.2) then(some ((FSt.mk ([]:List Node)),12)) else(bif(decide ((length l.1.aA:Int)>4096)) then(some ((FSt.mk ([]:List Node)),7)) else(some (l.1,0)))))=some (f,e)->MX h d t=some ((f,e),t):=λ{A b tg f e} g z=>by refine e501a ?_;rw[k1,aj,cond_neg (by rfl),c414,aj];show x7 G2 [⟨_,[]⟩] ([[]].map some) _=_;rw[qd rfl];show mN (oZ h [⟨0,[]⟩] true [] d t []) _=_;rw[g,cK];revert z;cases b with
   |false=>intro z;rw[cond_pos (by rfl)] at z⊢;cases z;rfl
   |true=>intro z;rw[cond_neg (by rfl)] at z⊢;cases e4:f441 h ⟨A⟩ with
    |none=>rw[e4] at z;cases z
    |some y=>rw[e4,aj] at z;rw[aj];cases h2:(!y.2) with
     |true=>rw[h2,ak] at z;rw[ak];cases z;rfl
     |false=>rw[h2,az] at z;rw[az];cases h3:decide ((y.1.aA.length:Int)>4096) with
      |true=>rw[h3,ak] at z;rw[ak];cases z;rfl
      |false=>rw[h3,az] at z;rw[az];cases z;rfl
  have r3:∀{A b K f e},G4 t u->rj d [] h.Types h.bJ u [⟨0,[]⟩] []=some (b,A,K)->(bif(!b) then(some ((FSt.mk ([]:List Node)),(12:Int))) else(Option.bind (f434 h (FSt.mk A)) λl=>bif(!l.2) then(some ((FSt.mk ([]:List Node)),12)) else(bif(decide ((length l.1.aA:Int)>4096)) then(some ((FSt.mk ([]:List Node)),7)) else(some (l.1,0)))))=some (f,e)->f500 h u d=some (f,e):=λ{A b K f e} D g z=>by refine mk ⟨A,K,e506a ?_⟩;rw[k2 D,bI,cond_neg (by rfl),bU ⟨af,by omega,by decide,af⟩];show e9 (rj d [] h.Types h.bJ u [⟨0,[]⟩] []) _=_;rw[g,bI];revert z;show _->(bif !b then _ else Option.bind (f434 h ⟨A⟩) _)=_;cases b with
   |false=>intro z;rw[cond_pos (by rfl)] at z⊢;cases z;rfl
   |true=>intro z;rw[cond_neg (by rfl)] at z⊢;cases e4:f434 h ⟨A⟩ with
    |none=>rw[e4] at z;cases z
    |some y=>rw[e4,aj] at z;rw[aj];cases h2:(!y.2) with
     |true=>rw[h2,ak] at z;rw[ak];cases z;rfl
     |false=>rw[h2,az] at z;rw[az];cases h3:decide ((y.1.aA.length:Int)>4096) with
      |true=>rw[h3,ak] at z;rw[ak];cases z;rfl
      |false=>rw[h3,az] at z;rw[az];cases z;rfl
  rcases hsim with⟨A,tg,K,g2,g3,gc,gl,gr,gt,gs⟩|⟨A,tg,B,K,g2,g3,gt,gs⟩
  .have O:(FSt.mk A).aA.length<=140000:=by
    show A.length<=140000;omega
   have i1:=c434 H.hv gc O hT af;have i2:=c441 H.hv gc O af;have V:=abZ H i1 i2;obtain⟨ρ,hρ⟩:=gs.ex ⟨λ_=>0,U _ _⟩
   have bs:∀{f e},Fin (f434 h ⟨A⟩) f e->AX h T F sb t d f e:=λ{f e} hf=> .inr ⟨kn, .inl ⟨⟨A⟩,gc,O,λC G hle=>(by
    obtain⟨ρ',h'⟩:=Tg.up gc G hle hρ
    exact⟨ρ',((gs.iff _ _ G).2 ⟨hle,h'⟩).2.2⟩),λC ρ G hS=>((gs.iff _ _ G).1 ⟨top C G,U _ _,hS⟩).1,hf⟩⟩
   rcases i2 with⟨tl,I,S,w⟩|⟨I,_⟩
   .have hcr:Can T F (AT ⟨A⟩ tl):=gc.AT S.len S.rg;have Q:(AT ⟨A⟩ tl).aA.length=A.length:=xq S.len;have N:∀{x},x=some (AT ⟨A⟩ tl,true)->(bif(!true) then(some ((FSt.mk ([]:List Node)),(12:Int))) else(Option.bind x λl=>bif(!l.2) then(some ((FSt.mk ([]:List Node)),12)) else(bif(decide ((length l.1.aA:Int)>4096)) then(some ((FSt.mk ([]:List Node)),7)) else(some (l.1,0)))))=if A.length>4096 then some (⟨[]⟩,7) else some (AT ⟨A⟩ tl,0):=λ{x} R=>by
     rw[cond_neg (by rfl),R,aj,cond_neg (by rfl),Q];by_cases P:A.length>4096
     .rw[aB P,cond_pos (by rw[bB];omega)]
     .rw[au P,cond_neg (by rw[aT];omega)]
    by_cases P:A.length>4096
    .have L:∀{x},x=some (AT ⟨A⟩ tl,true)->_:=λ{x} R=>(N R).trans (aB P)
     exact⟨_,_,r2 g2 (L I),λD=>r3 D (g3 D) (L (V.trans I)), .inr ⟨by decide,rfl⟩,bs ⟨_,V.trans I,by rw[aB rfl,aB (by rw[Q];exact P)]⟩⟩
    .have L:∀{x},x=some (AT ⟨A⟩ tl,true)->_:=λ{x} R=>(N R).trans (au P)
     exact⟨_,_,r2 g2 (L I),λD=>r3 D (g3 D) (L (V.trans I)), .inl ⟨rfl,hcr,af⟩,bs ⟨_,V.trans I,by rw[aB rfl,au (by rw[Q];exact P)]⟩⟩
   .have L:∀{x},x=some (⟨[]⟩,false)->(bif(!true) then(some ((FSt.mk ([]:List Node)),(12:Int))) else(Option.bind x λl=>bif(!l.2) then(some ((FSt.mk ([]:List Node)),12)) else(bif(decide ((length l.1.aA:Int)>4096)) then(some ((FSt.mk ([]:List Node)),7)) else(some (l.1,0)))))=some (⟨[]⟩,12):=λ{x} R=>by
     rw[cond_neg (by rfl),R,aj,cond_pos (by rfl)]
    exact⟨_,_,r2 g2 (L I),λD=>r3 D (g3 D) (L (V.trans I)), .inr ⟨by decide,rfl⟩,bs ⟨_,V.trans I,rfl⟩⟩
  .exact⟨⟨[]⟩,12,r2 g2 (by rw[cond_pos (by rfl)]),λD=>r3 D (g3 D) (by rw[cond_pos (by rfl)]), .inr ⟨by decide,rfl⟩, .inr ⟨kn, .inr ⟨λC ρ G hS=>gs C ρ G (top C G) (U _ _) hS,rfl,rfl⟩⟩⟩
theorem sR (l:0<T) {d:aQ} (z:fE Lg d) (D:oN d<=12):∃f e,MX h d t=some ((f,e),t)/\(G4 t u->f500 h u d=some (f,e))/\BRes T F f e/\AX h T F sb t d f e:=
 RB H hT hF ht hs l (z.imp λd q=>q.fm) λkn=>by
  have w:fE (Gd h t) d:=(z.and kn).imp λd q=>⟨q.1.fm,q.1.kl,q.1.pl,q.2⟩
  refine⟨1+5000 *oN d,0+oN d,by omega,(aaM H hT hF ht hs d w [] (by intro f B;cases B) aH).1 [⟨0,[]⟩] [] [] (IX H hF ⟨af,af⟩) aH aH .nil⟩
end
section
variable {h:aN} {T F:Nat} {sb:Int->Int->Prop} (hTO:TO T sb) {t:List Template} {d d':aQ} {f f':FSt} {e e':Int}
include hTO
theorem AX.uniq (G:AX h T F sb t d f e) (I:AX h T F sb t d' f' e') (N:fE (Kn h t) d↔fE (Kn h t) d') (hs:∀C,Can T F C->((∃ρ,Sat h t sb C ρ d [])↔∃ρ,Sat h t sb C ρ d' [])):f=f'/\e=e':=by
 rcases G with⟨w,rfl,rfl⟩|⟨w,G⟩<;>rcases I with⟨z,rfl,rfl⟩|⟨z,I⟩
 .exact⟨rfl,rfl⟩
 .exact(w (N.2 z)).elim
 .exact(z (N.1 w)).elim
 .rcases G with⟨B,l,_,L,P,Q⟩|⟨l,rfl,rfl⟩<;>rcases I with⟨D,q,_,c2,R,S⟩|⟨q,rfl,rfl⟩
  .obtain⟨ρ,x⟩:=(hs B l).1 (L B l (Le.refl hTO l));obtain⟨ρ',y⟩:=(hs D q).2 (c2 D q (Le.refl hTO q));have e:B=D:=Le.anti hTO l q (P D ρ' q y) (R B ρ l x);subst e;obtain⟨y1,V,K⟩:=Q;obtain⟨y2,O,U⟩:=S;rw[V] at O;cases O;rw[<-U] at K;exact⟨aP (·.1) K,aP (·.2) K⟩
  .obtain⟨ρ,x⟩:=(hs B l).1 (L B l (Le.refl hTO l));exact(q B ρ l x).elim
  .obtain⟨ρ,x⟩:=(hs D q).2 (c2 D q (Le.refl hTO q));exact(l D ρ q x).elim
  .exact⟨rfl,rfl⟩
end
end Go.Proofs.YtbnlhmaaccgbjaaGreatDoor.cl.pf
namespace Go.Proofs.YtbnlhmaaccgbjaaGreatDoor.cl.pf
open Go Go.AM
mutual
def D4:aQ->aQ
 | .mk op nm ph ks=> .mk op nm ph (bif op==4 then(aeh ks).reverse else aeh ks)
def aeh:List aQ->List aQ
 |[]=>[]
 |x::l=>D4 x::aeh l
end
mutual
def kD:aQ->aQ
 | .mk op nm ph ks=> .mk op (bif op==3 then[120,45]++nm else nm) ph (rens ks)
def rens:List aQ->List aQ
 |[]=>[]
 |x::l=>kD x::rens l
end
def T8:∀l:List aQ,aeh l=l.map D4
 |[]=>rfl
 |x::l=>by rw[aeh,T8 l];rfl
def TC:∀l:List aQ,rens l=l.map kD
 |[]=>rfl
 |x::l=>by rw[rens,TC l];rfl
def s9 (d:aQ):D4 d= .mk d.Op d.Name d.Path (bif d.Op==4 then(d.Kids.map D4).reverse else d.Kids.map D4):=by cases d;rw[D4,T8];rfl
def s6 (d:aQ):kD d= .mk d.Op (bif d.Op==3 then[120,45]++d.Name else d.Name) d.Path (d.Kids.map kD):=by cases d;rw[kD,TC];rfl
def F2 (d k':aQ):k'∈(D4 d).Kids↔∃k∈d.Kids,D4 k=k':=by rw[s9];show k'∈(bif d.Op==4 then _ else _)↔_;cases d.Op==4 with
 |true=>rw[ak,List.mem_reverse,aD]
 |false=>rw[az,aD]
def TA (d k':aQ):k'∈(kD d).Kids↔∃k∈d.Kids,kD k=k':=by rw[s6];show k'∈d.Kids.map kD↔_;rw[aD]
def QU (d:aQ):(D4 d).Kids.length=d.Kids.length:=by rw[s9];show(bif d.Op==4 then _ else _:List aQ).length=_;cases d.Op==4<;>simp
def PL (d:aQ):(kD d).Kids.length=d.Kids.length:=by rw[s6];show(d.Kids.map kD).length=_;simp
def fE.thru {g:aQ->aQ} {P Q:aQ->Prop} (z:∀d k',k'∈(g d).Kids↔∃k∈d.Kids,g k=k') (w:∀d,Q (g d)↔P d) (d:aQ):fE Q (g d)↔fE P d:=by induction d using j8 with
 |h d B=>
  constructor
  .exact λa=>⟨d,(w d).1 a.here,λk l=>(B k l).1 (a.kids _ ((z d _).2 ⟨k,l,rfl⟩))⟩
  .refine λa=>⟨_,(w d).2 a.here,λk' q=> ?_⟩
   obtain⟨k,l,rfl⟩:=(z d k').1 q;exact(B k l).2 (a.kids k l)
def trn_cnt (d:aQ):oN (D4 d)=oN d:=by induction d using j8 with
 |h d w=>
  have key:∀l:List aQ,(∀k∈l,k∈d.Kids)->eU (l.map D4)=eU l/\eU (l.map D4).reverse=eU l:=by intro l;induction l with
   |nil=>intro _;exact⟨rfl,rfl⟩
   |cons x l z=>
    intro h;obtain⟨a,b⟩:=z λk q=>h k (by simp[q])
    have c:=w x (h x ai);refine⟨by rw[bw,eU,eU,a,c],?_⟩;rw[bw,List.reverse_cons,Cr,b,eU,eU,eU,c];omega
  obtain⟨a,b⟩:=key d.Kids λk q=>q
  rw[zH,zH d,s9];show 1+eU (bif d.Op==4 then _ else _)=_;cases d.Op==4 with
  |true=>rw[ak,b]
  |false=>rw[az,a]
def ren_cnt (d:aQ):oN (kD d)=oN d:=by induction d using j8 with
 |h d w=>
  have key:∀l:List aQ,(∀k∈l,k∈d.Kids)->eU (l.map kD)=eU l:=by intro l;induction l with
   |nil=>intro _;rfl
   |cons x l z=>intro h;rw[bw,eU,eU,z λk q=>h k (by simp[q]),w x (h x ai)]
  rw[zH,zH d,s6];show 1+eU (d.Kids.map kD)=_;rw[key d.Kids λk q=>q]
section
variable {h:aN} {t:List Template} {sb:Int->Int->Prop} {C:FSt} {ρ ρ':b9->Nat}
def wC:∀{l:List aQ} {p:List Int},yT h t sb C ρ l p↔∀x∈l,Sat h t sb C ρ x p
 |[],p=>by rw[yT];simp
 |x::l,p=>by rw[yT,wC (l:=l),List.forall_mem_cons]
variable {g:aQ->aQ}
def Cs:∀{l:List aQ} {p:List Int},(∀x∈l,∀p,Sat h t sb C ρ' (g x) p↔Sat h t sb C ρ x p)->(Jq h t sb C ρ' (l.map g) p↔Jq h t sb C ρ l p)
 |[],p,_=>by rw[di,Jq,Jq]
 |x::l,p,hs=>by rw[bw,Jq,Jq,hs x ai,Cs (l:=l) λy q=>hs y (by simp[q])]
def IY:∀{l:List aQ} {p:List Int},(∀x∈l,∀p,Sat h t sb C ρ' (g x) p↔Sat h t sb C ρ x p)->(YV h t sb C ρ' (l.map g) p↔YV h t sb C ρ l p)
 |[],p,_=>by rw[di,YV,YV]
 |x::l,p,hs=>by rw[bw,YV,YV,hs x ai,hs x ai,IY (l:=l) λy q=>hs y (by simp[q])];simp
def FC {l:List aQ} {p:List Int} (hs:∀x∈l,∀p,Sat h t sb C ρ' (g x) p↔Sat h t sb C ρ x p):yT h t sb C ρ' (l.map g) p↔yT h t sb C ρ l p:=by
 rw[wC,wC]
 exact⟨λa x q=>(hs x q p).1 (a _ (iK q)),λa y w=>by
  obtain⟨x,q,rfl⟩:=aD.1 w
  exact(hs x q p).2 (a x q)⟩
def Yn (d:aQ):∀p,Sat h t sb C ρ (D4 d) p↔Sat h t sb C ρ d p:=by induction d using j8 with
 |h d l=>
  intro p;have G:(D4 d).Op=d.Op:=by rw[s9];rfl
  have D:(D4 d).Name=d.Name:=by rw[s9];rfl
  have I:(D4 d).Path=d.Path:=by rw[s9];rfl
  have B:=QU d;have z:d.Op≠4->(D4 d).Kids=d.Kids.map D4:=λK=>by rw[s9];show(bif d.Op==4 then _ else _)=_;rw[cond_neg (by simpa using K)]
  rw[qv,qv (d:=d),G,D,I,B];by_cases q:d.Op=4
  .have n:∀k:Int,k≠4->¬d.Op=k:=λk z e=>z (by rw[<-e,q])
   rw[au (n 1 (by decide)),au (n 2 (by decide)),au (n 3 (by decide)),aB q,au (n 1 (by decide)),au (n 2 (by decide)),au (n 3 (by decide)),aB q,wC,wC];refine⟨λa x w=>(l x w p).1 (a _ ((F2 d _).2 ⟨x,w,rfl⟩)),λa y L=> ?_⟩;obtain⟨x,w,rfl⟩:=(F2 d y).1 L;exact(l x w p).2 (a x w)
  .rw[z q,au q,au q,FC (ρ:=ρ) l,Cs (ρ:=ρ) l,IY (ρ:=ρ) l,Cs (ρ:=ρ) l]
def Ym (d:aQ):∀p,Sat h t sb C ρ (kD d) p↔Sat h t sb C (λs=>ρ ([120,45]++s)) d p:=by induction d using j8 with
 |h d q=>
  intro p;have D:(kD d).Op=d.Op:=by rw[s6];rfl
  have G:(kD d).Path=d.Path:=by rw[s6];rfl
  have z:=PL d;have w:(kD d).Kids=d.Kids.map kD:=by rw[s6];rfl
  have B:(kD d).Name=bif d.Op==3 then[120,45]++d.Name else d.Name:=by rw[s6];rfl
  rw[qv,qv (d:=d),D,G,z,w,B,FC q,FC q,Cs q,Cs q,IY q];by_cases l:d.Op=3
  .have n:∀k:Int,k≠3->¬d.Op=k:=λk w e=>w (by rw[<-e,l])
   rw[cond_pos (by simpa using l),au (n 1 (by decide)),au (n 2 (by decide)),aB l,au (n 1 (by decide)),au (n 2 (by decide))]
  .rw[cond_neg (by simpa using l),au l,au l]
end
section
variable {h:aN} {t:List Template}
def kn_trn (d:aQ):fE (Kn h t) (D4 d)↔fE (Kn h t) d:=fE.thru F2 (λd=>by
 have l:(D4 d).Op=d.Op:=by rw[s9];rfl
 have q:(D4 d).Name=d.Name:=by rw[s9];rfl
 have w:(D4 d).Path=d.Path:=by rw[s9];rfl
 constructor
 .intro a;exact⟨by have:=a.ty;rwa[l,q] at this,by have:=a.tm;rwa[l,q] at this,by have:=a.ls;rwa[l] at this,by have:=a.pt;rwa[l,w] at this⟩
 .intro a
  exact⟨by rw[l,q];exact a.ty,by rw[l,q];exact a.tm,by rw[l];exact a.ls,by rw[l,w];exact a.pt⟩) d
def kn_ren (d:aQ):fE (Kn h t) (kD d)↔fE (Kn h t) d:=fE.thru TA (λd=>by
 have l:(kD d).Op=d.Op:=by rw[s6];rfl
 have w:(kD d).Path=d.Path:=by rw[s6];rfl
 have q:d.Op≠3->(kD d).Name=d.Name:=λz=>by rw[s6];show(bif d.Op==3 then _ else _)=_;rw[cond_neg (by simpa using z)]
 constructor
 .intro a;exact⟨λe=>by have:=a.ty (l.trans e);rwa[q af] at this,λe=>by have:=a.tm (l.trans e);rwa[q af] at this,by have:=a.ls;rwa[l] at this,by have:=a.pt;rwa[l,w] at this⟩
 .intro a
  exact⟨λe=>by rw[l] at e;rw[q af];exact a.ty e,λe=>by rw[l] at e;rw[q af];exact a.tm e,by rw[l];exact a.ls,by rw[l,w];exact a.pt⟩) d
def IS {d d':aQ} (q:d'.Op=d.Op) (l:d'.Kids.length=d.Kids.length) (hp:d'.Path=d.Path):Lg d->Lg d':=λ⟨⟨a,⟨w,z,B⟩,c,e,i⟩,f,g⟩=>⟨⟨by rw[q];exact a,⟨by rw[q,l];exact w,by rw[q,l];exact z,by rw[q,l];exact B⟩,by rw[hp];exact c,by rw[l];exact e,by rw[q,hp];exact i⟩,by rw[l];exact f,by rw[hp];exact g⟩
def lg_trn {d:aQ}:fE Lg (D4 d)↔fE Lg d:=fE.thru F2 (λd=>by
 have l:(D4 d).Op=d.Op:=by rw[s9];rfl
 have q:(D4 d).Path=d.Path:=by rw[s9];rfl
 exact⟨IS l.symm (QU d).symm q.symm,IS l (QU d) q⟩) d
def lg_ren {d:aQ}:fE Lg (kD d)↔fE Lg d:=fE.thru TA (λd=>by
 have l:(kD d).Op=d.Op:=by rw[s6];rfl
 have q:(kD d).Path=d.Path:=by rw[s6];rfl
 exact⟨IS l.symm (PL d).symm q.symm,IS l (PL d) q⟩) d
end
end Go.Proofs.YtbnlhmaaccgbjaaGreatDoor.cl.pf
namespace Go.Proofs.YtbnlhmaaccgbjaaGreatDoor.cl.pf
open Go Go.AM
abbrev Nmd (P:b9->Prop) (d:aQ):Prop:=fE (λd=>d.Op=2->P d.Name) d
def h548 {d:aQ} (V:d.Kids.length<=256) (z:∀k∈d.Kids,∀w:List (List UInt8),w.length+oN k<=1000000->∃q,f548 k w=some q/\q.length<=w.length+oN k/\∀P,Nmd P k->(∀s∈w,P s)->∀s∈q,P s):∀(xs:List aQ) (i:Nat) (w:List (List UInt8)),d.Kids.drop i=xs->w.length+eU xs<=1000000->∃q,GX i d w=some q/\q.length<=w.length+eU xs/\∀P,(∀k∈xs,Nmd P k)->(∀s∈w,P s)->∀s∈q,P s:=by intro xs;induction xs with
 |nil=>intro i w l G;exact⟨w,adf (by rw[bq l,az]),by omega,λP _ h=>h⟩
 |cons x xs K=>
  intro i w l G;have I:x∈d.Kids:=by
   have:x∈d.Kids.drop i:=by rw[l];exact gE ..
   exact ji this
  have U:eU (x::xs)=oN x+eU xs:=by rw[eU]
  obtain⟨O,e,R,L⟩:=z x I w af;obtain⟨Q,D,S,N⟩:=K (i+1) O (aI l) af;exact⟨Q,adf (by rw[aV l,ak,aM l,e,aj,aR l af];exact D),by omega,λP B h=>N P (λk z=>B k (dz _ z)) (L P (B x ai) h)⟩
def c548 (d:aQ):fE Fm d->∀w:List (List UInt8),w.length+oN d<=1000000->∃l,f548 d w=some l/\l.length<=w.length+oN d/\∀P,Nmd P d->(∀s∈w,P s)->∀s∈l,P s:=by induction d using j8 with
 |h d L=>
  intro I w K;have D:=I.here.kl;have z:=λk z=>L k z (I.kids k z)
  have N:=zH d;by_cases B:d.Op=2
  .cases G:(w.any λx=>x==d.Name) with
   |true=>obtain⟨l,e,h,p⟩:=h548 D z d.Kids 0 w rfl af;exact⟨l,e548 (by rw[cond_pos (by simpa using B),c555 _ _ af,G,aj,dx,az];exact e),by omega,λP q=>p P q.kids⟩
   |false=>
    obtain⟨l,e,h,p⟩:=h548 D z d.Kids 0 (w++[d.Name]) rfl (by rw[cF,c7];omega);rw[cF,c7] at h;exact⟨l,e548 (by rw[cond_pos (by simpa using B),c555 _ _ af,G,aj,eM,ak,mH ⟨by simp only[c7];omega,by simp only[c7];omega⟩];exact e),by omega,λP q K=>p P q.kids λs hs=>(bu.1 hs).elim (K s) λhs=>by rw[cv.1 hs];exact q.here B⟩
  .obtain⟨l,e,h,p⟩:=h548 D z d.Kids 0 w rfl af;exact⟨l,e548 (by rw[cond_neg (by simpa using B)];exact e),by omega,λP q=>p P q.kids⟩
def h546 {x:Def} (B:YU x):∀(xs:List aQ) (i:Nat) (w:List (List UInt8)),x.eS.drop i=xs->w.length+12 *xs.length<=1000000->∃D,QL i x w=some D/\D.length<=w.length+12 *xs.length:=by intro xs;induction xs with
 |nil=>intro i w l z;exact⟨w,adb (by rw[bq l,az]),af⟩
 |cons y xs L=>
  intro i w l z;have K:y∈x.eS:=by
   have:y∈x.eS.drop i:=by rw[l];exact gE ..
   exact ji this
  have q:=B.df y K;have:=q.cnt;have I:=B.dl;rw[bp] at z⊢;obtain⟨N,e,P,_⟩:=c548 y q.fm w af;obtain⟨O,G,Q⟩:=L (i+1) N (aI l) af;exact⟨O,adb (by rw[aV l,ak,aM l,e,aj,aR l af];exact G),af⟩
def c546 {x:Def} (l:YU x):∃w,f546 x=some w/\w.length<=48:=by have D:=l.st.cnt;have z:=l.dl;obtain⟨w,e,h,_⟩:=c548 x.jH l.st.fm [] (by rw[dH];omega);rw[dH] at h;obtain⟨B,q,G⟩:=h546 l x.eS 0 w rfl af;exact⟨B,e546 (by rw[e,aj];exact q),af⟩
def rdy (l:List b9) (w:List b9):Bool:=w.all λs=>l.any λn=>n==s
def K0 {z:Type} (p:z->Bool) (l:List z) (i:Nat):decide (sK p l i<0)= !(l.any p):=by
 rcases sY p l i with⟨q,w⟩|⟨k,x,q,w,B,_⟩
 .rw[q,show l.any p=false from by
   rw[Bool.eq_false_iff];intro h;obtain⟨x,D,hp⟩:=kM.1 h
   rw[w x D] at hp;cases hp]
  rfl
 .rw[q,show l.any p=true from kM.2 ⟨x,aZ w,B⟩,r5 af];rfl
def h547 {t:List Template} (ht:t.length<=1000) {l:List b9} (z:l.length<=1000):∀(xs:List b9) (i:Nat),l.drop i=xs->QM t l i=some (rdy (t.map (·.Name)) xs):=by intro xs;induction xs with
 |nil=>intro i q;refine ade ?_;rw[bq q,az];rfl
 |cons x xs w=>intro i q;refine ade ?_;rw[aV q,ak,aM q,Y9 _ _ af,aj,K0,aR q af,w (i+1) (aI q)];unfold rdy;rw[jC,List.any_map];cases h:(t.any λy=>y.Name==x) with
  |true=>rw[show(t.any ((λn=>n==x)∘λy=>y.Name))=true from h,dx,az,gF]
  |false=>rw[show(t.any ((λn=>n==x)∘λy=>y.Name))=false from h,eM,ak,pY]
def c547 {t:List Template} (ht:t.length<=1000) {x:Def} (l:YU x):∃w,f546 x=some w/\f547 t x=some (rdy (t.map (·.Name)) w):=by obtain⟨w,e,h⟩:=c546 l;refine⟨w,e,e547 ?_⟩;rw[e,aj];exact h547 ht af w 0 rfl
noncomputable def nd (x:Def):List b9:=(f546 x).getD []
noncomputable def nxt (ns:List b9) (l:List Def):List Def->Nat->Int->Int
 |[],_,q=>q
 |x::xs,i,q=>nxt ns l xs (i+1) (if(!(ns.any λn=>n==x.Name))&&(rdy ns (nd x)&&(decide (q<0)||Op.bytesLess x.Name ((l[q.toNat]?.map (·.Name)).getD []))) then(i:Int) else q)
def h526 {t:List Template} (ht:t.length<=1000) {l:List Def} (hl:l.length<=1000) (hd:∀x∈l,YU x):∀(xs:List Def) (i:Nat) (q:Int),l.drop i=xs->(q= -1\/∃b:Nat,q=b/\b<l.length)->
  sH t l q i=some (nxt (t.map (·.Name)) l xs i q)/\(nxt (t.map (·.Name)) l xs i q= -1\/∃b:Nat,nxt (t.map (·.Name)) l xs i q=b/\b<l.length):=by
 intro xs;induction xs with
 |nil=>intro i q z B;exact⟨ac9 (by rw[bq z,az];rfl),B⟩
 |cons x xs ih=>
  intro i q z B;have N:i<l.length:=by have:=aP length z;simp only[iN,bp] at this;omega
  have hx:x∈l:=by
   have:x∈l.drop i:=by rw[z];exact gE ..
   exact ji this
  obtain⟨w,e,hr⟩:=c547 ht (hd x hx);have O:nd x=w:=by unfold nd;rw[e];rfl
  have D:((t.map (·.Name)).any λn=>n==x.Name)=t.any λy=>y.Name==x.Name:=List.any_map
  obtain⟨i1,i2⟩:=ih (i+1) i (aI z) (.inr ⟨i,rfl,N⟩);obtain⟨Q,R⟩:=ih (i+1) q (aI z) B;have pre:∀r,(bif decide (sK (λy=>y.Name==x.Name) t 0<0) then(bif rdy (t.map (·.Name)) w then(bif decide (q<0) then sH t l i ((i+1:Nat):Int) else bA l i λI=>bA l q λK=>bif Op.bytesLess I.Name K.Name then sH t l i ((i+1:Nat):Int) else sH t l q ((i+1:Nat):Int)) else sH t l q ((i+1:Nat):Int)) else sH t l q ((i+1:Nat):Int))=some r->sH t l q i=some r:=λr h=>by refine ac9 ?_;rw[aV z,ak,aM z,Y9 _ _ af,aj,aM z,hr,aj,aR z af];exact h
  simp only[nxt,D,O];rw[K0] at pre;cases S:(t.any λy=>y.Name==x.Name) with
  |true=>rw[S] at pre;refine⟨pre _ (by rw[dx,az];rw[au ai];exact Q),?_⟩;rw[au ai];exact R
  |false=>rw[S,eM,ak] at pre;cases V:rdy (t.map (·.Name)) w with
   |false=>rw[V,az] at pre;refine⟨pre _ (by rw[au ai];exact Q),?_⟩;rw[au ai];exact R
   |true=>
    rw[V,ak] at pre;rcases B with B|⟨b,B,G⟩
    .subst B;refine⟨pre _ (by rw[cond_pos (by rfl),aB ai];exact i1),?_⟩;rw[aB ai];exact i2
    .subst B;rw[cond_neg (by rw[aT];omega),cO N,cO G] at pre;have P:l[i]=x:=by
      have:=aP List.head? z;rw[List.head?_drop] at this;rw[aK N] at this;simpa using this
     rw[P] at pre;have L:((l[((b:Nat):Int).toNat]?.map (·.Name)).getD [])=l[b].Name:=by rw[bg,aK G];rfl
     rw[L,r5 (by omega:¬((b:Nat):Int)<0)];cases U:Op.bytesLess x.Name l[b].Name with
     |true=>rw[U,ak] at pre;refine⟨pre _ (by rw[aB ai];exact i1),?_⟩;rw[aB ai];exact i2
     |false=>rw[U,az] at pre;refine⟨pre _ (by rw[au ai];exact Q),?_⟩;rw[au ai];exact R
def c526 {t:List Template} (ht:t.length<=1000) {l:List Def} (B:l.length<=1000) (z:∀x∈l,YU x):f526 t l=some (nxt (t.map (·.Name)) l l 0 (-1))/\(nxt (t.map (·.Name)) l l 0 (-1)= -1\/∃b:Nat,nxt (t.map (·.Name)) l l 0 (-1)=b/\b<l.length):=by obtain⟨q,w⟩:=h526 ht B z l 0 (-1) rfl (.inl rfl);exact⟨e526 q,w⟩
