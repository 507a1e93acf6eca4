/- Build. -/
import Derived.Test.YthphfjcnkinkpaaGreatDoorClWc
import Derived.Test.YthphfjcnkinkpaaGreatDoorClUc
import Derived.Test.YthphfjcnkinkpaaGreatDoorClUd
import Derived.Test.YthphfjcnkinkpaaGreatDoorClT
import Derived.Test.YthphfjcnkinkpaaGreatDoorClXb
import Derived.Test.YthphfjcnkinkpaaGreatDoorRows
import Derived.ProofKit
set_option linter.all false
open List (length)
namespace Go.Proofs.YthphfjcnkinkpaaGreatDoor.cl.pf
open Go Go.AM
def BRes (T F:Nat) (f:FSt) (e:Int):Prop:=(e=0/\Can T F f/\f.au.length<=4096)\/(e≠0/\f=⟨[]⟩)
structure Lg (d:bI):Prop where
 fm:Fm d
 kl:d.Kids.length<=12
 pl:d.Path.length<=4
def LD.lg {d:bI} (hd:LD d):iW Lg d:=
 ((hd.fm.and hd.lt).and hd.sh).imp λd q=>⟨q.1.1,q.1.2.kl,q.2⟩
def Fin (x:Option (FSt×Bool)) (f:FSt) (e:Int):Prop:=∃y,x=some y/\(f,e)=(if y.2 then(if y.1.au.length>4096 then(⟨[]⟩,7) else(y.1,0)) else(⟨[]⟩,12))
def Jc (h:aK) (T F:Nat) (sb:Int->Int->Prop) (t:List Template) (d:bI) (f:FSt) (e:Int):Prop:=
 (¬iW (Kn h t) d/\f=⟨[]⟩/\e=5)\/(iW (Kn h t) d/\
  ((∃B,Can T F B/\B.au.length<=140000/\(∀C,Can T F C->Le sb B C->∃ρ,Sat h t sb C ρ d [])/\(∀C ρ,Can T F C->Sat h t sb C ρ d []->Le sb B C)/\Fin (f434 h B) f e)\/
   ((∀C ρ,Can T F C->Sat h t sb C ρ d []->False)/\f=⟨[]⟩/\e=12)))
def Jc.kn {h:aK} {T F:Nat} {sb:Int->Int->Prop} {t:List Template} {d:bI} {f:FSt} {e:Int} (q:Jc h T F sb t d f e) (B:e=0):iW (Kn h t) d:=by
 rcases q with⟨_,_,z⟩|⟨a,_⟩
 .omega
 .exact a
section
variable {h:aK} {T F:Nat} {sb:Int->Int->Prop} {bQ:Int->Int} {val:Int->Int->Int} (H:HX h T F sb bQ val) (hT:T<=1000) (hF:F<=300) {t u:List Template} (ht:t.length<=1000) (hs:RE T F t)
include H in
theorem abR {f:FSt} {G I:Option (FSt×Bool)} (N:UF T sb bQ val f G) (O:UF T sb bQ val f I):G=I:=by
 rcases N with⟨a,e1,z,K⟩|⟨e1,P⟩<;>rcases O with⟨b,D,B,L⟩|⟨D,Q⟩
 .have R:A5 sb bQ val f (λn=>a.getD n 0):=λn q=>⟨z.up n q,K n q⟩
  have S:A5 sb bQ val f (λn=>b.getD n 0):=λn q=>⟨B.up n q,L n q⟩
  have:a=b:=abk (z.len.trans B.len.symm) λn q=>by rw[z.len] at q;exact H.hv.hm.to.anti (z.dG _ S n q) (B.dG _ R n q)
  rw[e1,D,this]
 .exact(Q _ λn q=>⟨z.up n q,K n q⟩).elim
 .exact(P _ λn q=>⟨B.up n q,L n q⟩).elim
 .rw[e1,D]
include H hT hF ht hs
theorem aaM (uG:0<T) {d:bI} (hd:iW Fm d) (hadd:iW (Kn h t) d->∃n k,n<=140000/\Sim T F sb t u (λC ρ=>Sat h t sb C ρ d []) [⟨0,[]⟩] [] n k (kV h [⟨0,[]⟩] true [] d t []) (oK d [] h.Types h.bC u [⟨0,[]⟩] [])):∃f e,MR h d t=some ((f,e),t)/\(HZ t u->f500 h u d=some (f,e))/\BRes T F f e/\Jc h T F sb t d f e:=by
 obtain⟨b,k1,k2,k3⟩:=c507 H hT hF (u:=u) ht d hd;have mk:∀{f e},(∃C L,abl d h.Types h.bC u [] []=some ((f,e),C,L))->f500 h u d=some (f,e):=λ{f e} D=>by obtain⟨C,L,D⟩:=D;refine e500 ?_;rw[e505 rfl,zB,D,bG]
 cases b with
 |false=>
  refine⟨⟨[]⟩,5,e501a ?_,λG=>mk ⟨[],[],e506a ?_⟩, .inr ⟨by decide,rfl⟩, .inl ⟨λG=>(by have:=k3.2 G;cases this),rfl,rfl⟩⟩
  .rw[k1,aj,cond_pos (by rfl)]
  .rw[k2 G,bG,cond_pos (by rfl)]
 |true=>
  have kn:=k3.1 rfl;obtain⟨n,k,hn,hsim⟩:=hadd kn;have hc1:Can T F ⟨[⟨0,[]⟩]⟩:=Pq H hF ⟨af,af⟩;have top:∀C,Can T F C->Le sb ⟨[⟨0,[]⟩]⟩ C:=λC I=>by
   have:=(Oi (T:=T) (F:=F) (π:=[]) (t:=0) H.hv.hm.to ai ⟨jL 0,af⟩ I).2 ⟨0,rfl,by
    have:=I.go.tp 0 I.ne
    exact H.hv.hm.to.top this.1 this.2⟩
   exact this
  have V:∀C ρ,Tg C ρ []:=λC ρ s q hq=>by rw[JU] at hq;cases hq
  have r2:∀{A b tg f e},kV h [⟨0,[]⟩] true [] d t []=some (A,b,t,tg)->(bif(!b) then(some ((FSt.mk ([]:List Node)),(12:Int))) else(Option.bind (f441 h (FSt.mk A)) λz=>bif(!z.2) then(some ((FSt.mk ([]:List Node)),12)) else(bif(decide ((length z.1.au:Int)>4096)) then(some ((FSt.mk ([]:List Node)),7)) else(some (z.1,0)))))=some (f,e)->MR h d t=some ((f,e),t):=λ{A b tg f e} g D=>by refine e501a ?_;rw[k1,aj,cond_neg (by rfl),c414,aj];show yf GJ [⟨_,[]⟩] ([[]].map some) _=_;rw[qd rfl];show mJ (kV h [⟨0,[]⟩] true [] d t []) _=_;rw[g,cF];revert D;cases b with
   |false=>intro D;rw[cond_pos (by rfl)] at D⊢;cases D;rfl
   |true=>intro D;rw[cond_neg (by rfl)] at D⊢;cases e4:f441 h ⟨A⟩ with
    |none=>rw[e4] at D;cases D
    |some y=>rw[e4,aj] at D;rw[aj];cases h2:(!y.2) with
     |true=>rw[h2,ak] at D;rw[ak];cases D;rfl
     |false=>rw[h2,aA] at D;rw[aA];cases h3:decide ((y.1.au.length:Int)>4096) with
      |true=>rw[h3,ak] at D;rw[ak];cases D;rfl
      |false=>rw[h3,aA] at D;rw[aA];cases D;rfl
  have r3:∀{A b L f e},HZ t u->oK d [] h.Types h.bC u [⟨0,[]⟩] []=some (b,A,L)->(bif(!b) then(some ((FSt.mk ([]:List Node)),(12:Int))) else(Option.bind (f434 h (FSt.mk A)) λz=>bif(!z.2) then(some ((FSt.mk ([]:List Node)),12)) else(bif(decide ((length z.1.au:Int)>4096)) then(some ((FSt.mk ([]:List Node)),7)) else(some (z.1,0)))))=some (f,e)->f500 h u d=some (f,e):=λ{A b L f e} G g D=>by refine mk ⟨A,L,e506a ?_⟩;rw[k2 G,bG,cond_neg (by rfl),bT ⟨af,by omega,by decide,af⟩];show eM (oK d [] h.Types h.bC u [⟨0,[]⟩] []) _=_;rw[g,bG];revert D;show _->(bif !b then _ else Option.bind (f434 h ⟨A⟩) _)=_;cases b with
   |false=>intro D;rw[cond_pos (by rfl)] at D⊢;cases D;rfl
   |true=>intro D;rw[cond_neg (by rfl)] at D⊢;cases e4:f434 h ⟨A⟩ with
    |none=>rw[e4] at D;cases D
    |some y=>rw[e4,aj] at D;rw[aj];cases h2:(!y.2) with
     |true=>rw[h2,ak] at D;rw[ak];cases D;rfl
     |false=>rw[h2,aA] at D;rw[aA];cases h3:decide ((y.1.au.length:Int)>4096) with
      |true=>rw[h3,ak] at D;rw[ak];cases D;rfl
      |false=>rw[h3,aA] at D;rw[aA];cases D;rfl
  rcases hsim with⟨A,tg,L,g2,g3,gc,gl,gr,gt,gs⟩|⟨A,tg,B,L,g2,g3,gt,gs⟩
  .have P:(FSt.mk A).au.length<=140000:=by
    show A.length<=140000;omega
   have i1:=c434 H.hv gc P hT af;have i2:=c441 H.hv gc P af;have ie:=abR H i1 i2;obtain⟨ρ,hρ⟩:=gs.ex ⟨λ_=>0,V _ _⟩
   have bs:∀{f e},Fin (f434 h ⟨A⟩) f e->Jc h T F sb t d f e:=λ{f e} hf=> .inr ⟨kn, .inl ⟨⟨A⟩,gc,P,λC I hle=>(by
    obtain⟨ρ',h'⟩:=Tg.up gc I hle hρ
    exact⟨ρ',((gs.iff _ _ I).2 ⟨hle,h'⟩).2.2⟩),λC ρ I hS=>((gs.iff _ _ I).1 ⟨top C I,V _ _,hS⟩).1,hf⟩⟩
   rcases i2 with⟨tl,K,S,w⟩|⟨K,_⟩
   .have hcr:Can T F (AX ⟨A⟩ tl):=gc.AX S.len S.rg;have R:(AX ⟨A⟩ tl).au.length=A.length:=xw S.len;have O:∀{x},x=some (AX ⟨A⟩ tl,true)->(bif(!true) then(some ((FSt.mk ([]:List Node)),(12:Int))) else(Option.bind x λz=>bif(!z.2) then(some ((FSt.mk ([]:List Node)),12)) else(bif(decide ((length z.1.au:Int)>4096)) then(some ((FSt.mk ([]:List Node)),7)) else(some (z.1,0)))))=if A.length>4096 then some (⟨[]⟩,7) else some (AX ⟨A⟩ tl,0):=λ{x} U=>by
     rw[cond_neg (by rfl),U,aj,cond_neg (by rfl),R];by_cases Q:A.length>4096
     .rw[aB Q,cond_pos (by rw[bg];omega)]
     .rw[az Q,cond_neg (by rw[aQ];omega)]
    by_cases Q:A.length>4096
    .have N:∀{x},x=some (AX ⟨A⟩ tl,true)->_:=λ{x} U=>(O U).trans (aB Q)
     exact⟨_,_,r2 g2 (N K),λG=>r3 G (g3 G) (N (ie.trans K)), .inr ⟨by decide,rfl⟩,bs ⟨_,ie.trans K,by rw[aB rfl,aB (by rw[R];exact Q)]⟩⟩
    .have N:∀{x},x=some (AX ⟨A⟩ tl,true)->_:=λ{x} U=>(O U).trans (az Q)
     exact⟨_,_,r2 g2 (N K),λG=>r3 G (g3 G) (N (ie.trans K)), .inl ⟨rfl,hcr,af⟩,bs ⟨_,ie.trans K,by rw[aB rfl,az (by rw[R];exact Q)]⟩⟩
   .have N:∀{x},x=some (⟨[]⟩,false)->(bif(!true) then(some ((FSt.mk ([]:List Node)),(12:Int))) else(Option.bind x λz=>bif(!z.2) then(some ((FSt.mk ([]:List Node)),12)) else(bif(decide ((length z.1.au:Int)>4096)) then(some ((FSt.mk ([]:List Node)),7)) else(some (z.1,0)))))=some (⟨[]⟩,12):=λ{x} U=>by
     rw[cond_neg (by rfl),U,aj,cond_pos (by rfl)]
    exact⟨_,_,r2 g2 (N K),λG=>r3 G (g3 G) (N (ie.trans K)), .inr ⟨by decide,rfl⟩,bs ⟨_,ie.trans K,rfl⟩⟩
  .exact⟨⟨[]⟩,12,r2 g2 (by rw[cond_pos (by rfl)]),λG=>r3 G (g3 G) (by rw[cond_pos (by rfl)]), .inr ⟨by decide,rfl⟩, .inr ⟨kn, .inr ⟨λC ρ I hS=>gs C ρ I (top C I) (V _ _) hS,rfl,rfl⟩⟩⟩
theorem FV (uG:0<T) {d:bI} (hd:iW Lg d) (D:jH d<=14):∃f e,MR h d t=some ((f,e),t)/\(HZ t u->f500 h u d=some (f,e))/\BRes T F f e/\Jc h T F sb t d f e:=
 aaM H hT hF ht hs uG (hd.imp λd q=>q.fm) λkn=>by
  have z:iW (Gd h t) d:=(hd.and kn).imp λd q=>⟨q.1.fm,q.1.kl,q.1.pl,q.2⟩
  refine⟨1+5000 *jH d,0+jH d,by omega,(add_ok H hT hF ht hs d z [] (by intro f B;cases B) aI).1 [⟨0,[]⟩] [] [] (Pq H hF ⟨af,af⟩) aI aI .nil⟩
end
end Go.Proofs.YthphfjcnkinkpaaGreatDoor.cl.pf
namespace Go.Proofs.YthphfjcnkinkpaaGreatDoor.cl.pf
open Go Go.AM
section
variable {h:aK} {t:List Template} {sb:Int->Int->Prop} {C:FSt} {ρ ρ':cn->Nat}
def T5:∀{l:List bI} {p:List Int},vH h t sb C ρ l p↔∀x∈l,Sat h t sb C ρ x p
 |[],p=>by rw[vH];simp
 |x::l,p=>by rw[vH,T5 (l:=l),List.forall_mem_cons]
variable {g:bI->bI}
end
end Go.Proofs.YthphfjcnkinkpaaGreatDoor.cl.pf
namespace Go.Proofs.YthphfjcnkinkpaaGreatDoor.cl.pf
open Go Go.AM
abbrev Nmd (P:cn->Prop) (d:bI):Prop:=iW (λd=>d.Op=2->P d.Name) d
def h548 {d:bI} (hl:d.Kids.length<=256) (z:∀k∈d.Kids,∀w:List (List UInt8),w.length+jH k<=1000000->∃q,f548 k w=some q/\q.length<=w.length+jH k/\∀P,Nmd P k->(∀s∈w,P s)->∀s∈q,P s):∀(xs:List bI) (i:Nat) (w:List (List UInt8)),d.Kids.drop i=xs->w.length+dL xs<=1000000->∃q,GD i d w=some q/\q.length<=w.length+dL xs/\∀P,(∀k∈xs,Nmd P k)->(∀s∈w,P s)->∀s∈q,P s:=by intro xs;induction xs with
 |nil=>intro i w hd G;exact⟨w,adg (by rw[aW hd,aA]),by omega,λP _ h=>h⟩
 |cons x xs K=>
  intro i w hd G;have I:x∈d.Kids:=by
   have:x∈d.Kids.drop i:=by rw[hd];exact gz ..
   exact je this
  have U:dL (x::xs)=jH x+dL xs:=by rw[dL]
  obtain⟨O,e,R,L⟩:=z x I w af;obtain⟨Q,D,S,N⟩:=K (i+1) O (aH hd) af;exact⟨Q,adg (by rw[aP hd,ak,aJ hd,e,aj,aN hd af];exact D),by omega,λP B h=>N P (λk z=>B k (dB _ z)) (L P (B x ai) h)⟩
def c548 (d:bI):iW Fm d->∀w:List (List UInt8),w.length+jH d<=1000000->∃q,f548 d w=some q/\q.length<=w.length+jH d/\∀P,Nmd P d->(∀s∈w,P s)->∀s∈q,P s:=by induction d using qC with
 |h d L=>
  intro I w K;have hl:=I.here.kl;have B:=λk B=>L k B (I.kids k B)
  have N:=F4 d;by_cases D:d.Op=2
  .cases G:(w.any λx=>x==d.Name) with
   |true=>obtain⟨q,e,h,p⟩:=h548 hl B d.Kids 0 w rfl af;exact⟨q,e548 (by rw[cond_pos (by simpa using D),c555 _ _ af,G,aj,dS,aA];exact e),by omega,λP z=>p P z.kids⟩
   |false=>
    obtain⟨q,e,h,p⟩:=h548 hl B d.Kids 0 (w++[d.Name]) rfl (by rw[cE,dV];omega);rw[cE,dV] at h;exact⟨q,e548 (by rw[cond_pos (by simpa using D),c555 _ _ af,G,aj,fS,ak,nW ⟨by simp only[dV];omega,by simp only[dV];omega⟩];exact e),by omega,λP z K=>p P z.kids λs hs=>(bu.1 hs).elim (K s) λhs=>by rw[cQ.1 hs];exact z.here D⟩
  .obtain⟨q,e,h,p⟩:=h548 hl B d.Kids 0 w rfl af;exact⟨q,e548 (by rw[cond_neg (by simpa using D)];exact e),by omega,λP z=>p P z.kids⟩
def h546 {x:Def} (B:YV x):∀(xs:List bI) (i:Nat) (w:List (List UInt8)),x.fc.drop i=xs->w.length+12 *xs.length<=1000000->∃D,Rc i x w=some D/\D.length<=w.length+12 *xs.length:=by intro xs;induction xs with
 |nil=>intro i w hd z;exact⟨w,ade (by rw[aW hd,aA]),af⟩
 |cons y xs L=>
  intro i w hd z;have K:y∈x.fc:=by
   have:y∈x.fc.drop i:=by rw[hd];exact gz ..
   exact je this
  have q:=B.df y K;have:=q.cnt;have I:=B.dl;rw[bD] at z⊢;obtain⟨N,e,P,_⟩:=c548 y q.fm w af;obtain⟨O,G,Q⟩:=L (i+1) N (aH hd) af;exact⟨O,ade (by rw[aP hd,ak,aJ hd,e,aj,aN hd af];exact G),af⟩
def c546 {x:Def} (q:YV x):∃w,f546 x=some w/\w.length<=48:=by have G:=q.st.cnt;have B:=q.dl;obtain⟨w,e,h,_⟩:=c548 x.gZ q.st.fm [] (by rw[fG];omega);rw[fG] at h;obtain⟨D,z,I⟩:=h546 q x.fc 0 w rfl af;exact⟨D,e546 (by rw[e,aj];exact z),af⟩
def rdy (q:List cn) (w:List cn):Bool:=w.all λs=>q.any λn=>n==s
def KK {q:Type} (p:q->Bool) (l:List q) (i:Nat):decide (sU p l i<0)= !(l.any p):=by
 rcases tu p l i with⟨z,B⟩|⟨k,x,z,B,D,_⟩
 .simp_all
 grind
def h547 {t:List Template} (ht:t.length<=1000) {l:List cn} (hl:l.length<=1000):∀(xs:List cn) (i:Nat),l.drop i=xs->Re t l i=some (rdy (t.map (·.Name)) xs):=by intro xs;induction xs with
 |nil=>intro i hd;refine adf ?_;rw[aW hd];rfl
 |cons x xs q=>intro i hd;refine adf ?_;rw[aP hd,aJ hd,UZ _ _ af,aj,KK,aN hd af,q _ (aH hd)];unfold rdy;grind
def c547 {t:List Template} (ht:t.length<=1000) {x:Def} (q:YV x):∃w,f546 x=some w/\f547 t x=some (rdy (t.map (·.Name)) w):=by obtain⟨w,e,h⟩:=c546 q;refine⟨w,e,e547 ?_⟩;rw[e,aj];exact h547 ht af w 0 rfl
noncomputable def nd (x:Def):List cn:=(f546 x).getD []
noncomputable def nxt (ns:List cn) (l:List Def):List Def->Nat->Int->Int
 |[],_,q=>q
 |x::xs,i,q=>nxt ns l xs (i+1) (if(!(ns.any λn=>n==x.Name))&&(rdy ns (nd x)&&(decide (q<0)||Op.bytesLess x.Name ((l[q.toNat]?.map (·.Name)).getD []))) then(i:Int) else q)
def h526 {t:List Template} (ht:t.length<=1000) {l:List Def} (hl:l.length<=1000) (hd:∀x∈l,YV x):∀(xs:List Def) (i:Nat) (q:Int),l.drop i=xs->(q= -1\/∃b:Nat,q=b/\b<l.length)->
  sQ t l q i=some (nxt (t.map (·.Name)) l xs i q)/\(nxt (t.map (·.Name)) l xs i q= -1\/∃b:Nat,nxt (t.map (·.Name)) l xs i q=b/\b<l.length):=by
 intro xs;induction xs with
 |nil=>intro i q z B;exact⟨ada (by rw[aW z,aA];rfl),B⟩
 |cons x xs ih=>
  intro i q z B;have N:i<l.length:=by have:=aU length z;simp only[lW,bD] at this;omega
  have hx:x∈l:=by
   have:x∈l.drop i:=by rw[z];exact gz ..
   exact je this
  obtain⟨w,e,hr⟩:=c547 ht (hd x hx);have O:nd x=w:=by unfold nd;rw[e];rfl
  have D:((t.map (·.Name)).any λn=>n==x.Name)=t.any λy=>y.Name==x.Name:=List.any_map
  obtain⟨i1,i2⟩:=ih (i+1) i (aH z) (.inr ⟨i,rfl,N⟩);obtain⟨Q,R⟩:=ih (i+1) q (aH z) B;have pre:∀r,(bif decide (sU (λy=>y.Name==x.Name) t 0<0) then(bif rdy (t.map (·.Name)) w then(bif decide (q<0) then sQ t l i ((i+1:Nat):Int) else bf l i λI=>bf l q λK=>bif Op.bytesLess I.Name K.Name then sQ t l i ((i+1:Nat):Int) else sQ t l q ((i+1:Nat):Int)) else sQ t l q ((i+1:Nat):Int)) else sQ t l q ((i+1:Nat):Int))=some r->sQ t l q i=some r:=λr h=>by refine ada ?_;rw[aP z,ak,aJ z,UZ _ _ af,aj,aJ z,hr,aj,aN z af];exact h
  simp only[nxt,D,O];rw[KK] at pre;cases S:(t.any λy=>y.Name==x.Name) with
  |true=>rw[S] at pre;refine⟨pre _ (by rw[dS,aA];rw[az ai];exact Q),?_⟩;rw[az ai];exact R
  |false=>rw[S,fS,ak] at pre;cases V:rdy (t.map (·.Name)) w with
   |false=>rw[V,aA] at pre;refine⟨pre _ (by rw[az ai];exact Q),?_⟩;rw[az ai];exact R
   |true=>
    rw[V,ak] at pre;rcases B with B|⟨b,B,G⟩
    .subst B;refine⟨pre _ (by rw[cond_pos (by rfl),aB ai];exact i1),?_⟩;rw[aB ai];exact i2
    .subst B;rw[cond_neg (by rw[aQ];omega),bU N,bU G] at pre;have P:l[i]=x:=by
      have:=aU List.head? z;rw[List.head?_drop] at this;rw[aM N] at this;simpa using this
     rw[P] at pre;have L:((l[((b:Nat):Int).toNat]?.map (·.Name)).getD [])=l[b].Name:=by rw[aT,aM G];rfl
     rw[L,u7 (by omega:¬((b:Nat):Int)<0)];cases U:Op.bytesLess x.Name l[b].Name with
     |true=>rw[U,ak] at pre;refine⟨pre _ (by rw[aB ai];exact i1),?_⟩;rw[aB ai];exact i2
     |false=>rw[U,aA] at pre;refine⟨pre _ (by rw[az ai];exact Q),?_⟩;rw[az ai];exact R
def c526 {t:List Template} (ht:t.length<=1000) {l:List Def} (hl:l.length<=1000) (hd:∀x∈l,YV x):f526 t l=some (nxt (t.map (·.Name)) l l 0 (-1))/\(nxt (t.map (·.Name)) l l 0 (-1)= -1\/∃b:Nat,nxt (t.map (·.Name)) l l 0 (-1)=b/\b<l.length):=by obtain⟨q,z⟩:=h526 ht hl hd l 0 _ rfl (.inl rfl);exact⟨e526 q,z⟩
end Go.Proofs.YthphfjcnkinkpaaGreatDoor.cl.pf
namespace Go.Proofs.YthphfjcnkinkpaaGreatDoor.cl.pf
open Go Go.AM
inductive Seq (l:List Def):List cn->Prop
 |fin {ns:List cn}:l.length<=ns.length->Seq l ns
 |step {ns:List cn} {b:Nat} (x:Def):ns.length<l.length->nxt ns l l 0 (-1)=b->l[b]? =some x->Seq l (ns++[x.Name])->Seq l ns
section
variable {l:List Def} (hl:l.length<=4) (hd:∀x∈l,YV x)
include hl hd
theorem h512_16:∀(n:Nat) (t:List Template),l.length<=t.length+n->t.length<=l.length->∃r,I7 l t=some r/\(r=0->Seq l (t.map (·.Name))):=by intro n;induction n with
 |zero=>intro t G I;exact⟨0,IE (by rw[cond_neg (by rw[aQ];omega)]),λ_=> .fin (by rw[bz];omega)⟩
 |succ n K=>
  intro t G I;by_cases L:t.length<l.length
  .obtain⟨e,q⟩:=c526 (t:=t) af af hd;rcases q with q|⟨b,q,z⟩
   .exact⟨6,IE (by rw[cond_pos (by rw[bg];omega),e,aj,cond_pos (by rw[bg];omega)]),λh=>by omega⟩
   .obtain⟨r,B,h⟩:=K (t++[⟨l[b].Name,⟨[]⟩,[]⟩]) (by rw[cE,dV];omega) (by rw[cE,dV];omega);refine⟨r,IE ?_,λD=> ?_⟩
    .rw[cond_pos (by rw[bg];omega),e,aj,q,cond_neg (by rw[aQ];omega),bU z,nW ⟨by simp only[dV];omega,by simp only[dV];omega⟩];exact B
    .have:=h D;rw[cL] at this;exact .step l[b] (by rw[bz];omega) q (aM z) this
  .exact⟨0,IE (by rw[cond_neg (by rw[aQ];omega)]),λ_=> .fin (by rw[bz];omega)⟩
theorem h512_11 {i:Nat} {w:List cn} (I:w.length<=1000) (B:∃r,LH l ((i+1:Nat):Int)=some r/\(r=0->Seq l [])) (G:i<l.length):∀(xs:List cn) (k:Nat),w.drop k=xs->∃r,I6 l i w k=some r/\(r=0->Seq l []):=by intro xs;induction xs with
 |nil=>intro k q;obtain⟨r,e,h⟩:=B;exact⟨r,O4 (by rw[aW q,aA,bM af];exact e),h⟩
 |cons x xs D=>
  intro k q;obtain⟨r,e,h⟩:=D (k+1) (aH q);by_cases z:sU (λy=>y.Name==x) l 0<0
  .exact⟨5,O4 (by rw[aP q,ak,aJ q,c539 _ _ af,aj,cond_pos (by rw[bg];exact z)]),λh=>by omega⟩
  .exact⟨r,O4 (by rw[aP q,ak,aJ q,c539 _ _ af,aj,cond_neg (by rw[aQ];exact z),aN q af];exact e),h⟩
theorem h512_7:∀(xs:List Def) (i:Nat),l.drop i=xs->∃r,LH l i=some r/\(r=0->Seq l []):=by intro xs;induction xs with
 |nil=>intro i q;obtain⟨r,e,h⟩:=h512_16 hl hd l.length [] ai ai;exact⟨r,ac6 (by rw[aW q,aA];exact e),h⟩
 |cons x xs G=>
  intro i q;have B:i<l.length:=by have:=aU length q;simp only[lW,bD] at this;omega
  have D:x∈l:=by
   have:x∈l.drop i:=by rw[q];exact gz ..
   exact je this
  obtain⟨w,e,I⟩:=c546 (hd x D);obtain⟨r,z,h⟩:=h512_11 hl hd af (G (i+1) (aH q)) B w 0 rfl;exact⟨r,ac6 (by rw[aP q,ak,aJ q,e,aj];exact z),h⟩
theorem h512_2:∀(xs:List Def) (i:Nat),l.drop i=xs->∃r,QV l i=some r/\(r=0->Seq l []/\∀j,i<=j->∀x,l[j]? =some x->sU (λy=>y.Name==x.Name) l 0=(j:Int)):=by intro xs;induction xs with
 |nil=>
  intro i q;obtain⟨r,e,h⟩:=h512_7 hl hd l 0 rfl;refine⟨r,VP (by rw[aW q,aA];exact e),λz=>⟨h z,λj L x K=> ?_⟩⟩;have O:l.length<=i:=by have:=aU length q;simp only[lW,fG] at this;omega
  rw[gH af] at K;cases K
 |cons x xs N=>
  intro i q;obtain⟨r,e,h⟩:=N (i+1) (aH q);by_cases G:sU (λy=>y.Name==x.Name) l 0=(i:Int)
  .refine⟨r,VP (by rw[aP q,ak,aJ q,c539 _ _ af,aj,G,cond_neg (by rw[bne_self_eq_false]),aN q af];exact e),λz=>⟨(h z).1,λj L y B=> ?_⟩⟩;by_cases D:j=i
   .subst D;have I:l[j]? =some x:=by
     have:=aU List.head? q;rw[List.head?_drop] at this;exact this
    have B:=fR (I.symm.trans B);rw[<-B];exact G
   .exact(h z).2 j af y B
  .exact⟨4,VP (by rw[aP q,ak,aJ q,c539 _ _ af,aj,cond_pos (by rw[lQ];exact G)]),λh=>absurd h (by decide)⟩
theorem c512:∃r,f512 l=some r/\(r=0->Seq l []/\∀(j:Nat) (x:Def),l[j]? =some x->sU (λy=>y.Name==x.Name) l 0=(j:Int)):=by obtain⟨r,e,h⟩:=h512_2 hl hd l 0 rfl;exact⟨r,e512 e,λq=>⟨(h q).1,λj x z=>(h q).2 j (cZ _) x z⟩⟩
end
end Go.Proofs.YthphfjcnkinkpaaGreatDoor.cl.pf
namespace Go.Proofs.YthphfjcnkinkpaaGreatDoor.cl.pf
open Go Go.AM
abbrev An (t:List Template):List cn:=t.map (·.Name)
def RI {t:List Template} {s:cn}:(t.any λx=>x.Name==s)=true↔s∈An t:=by simp
def h504_14 {t o:List Template} (ht:t.length<=1000) (ho:o.length<=1000) (hex:∃x∈t,x.Name∉An o):∀(xs:List Template) (i:Nat) (q:Int),t.drop i=xs->
  ((q= -1/\∀(j:Nat) (x:Template),j<i->t[j]? =some x->x.Name∈An o)\/∃(b:Nat) (y:Template),q=b/\t[b]? =some y/\y.Name∉An o/\∀(j:Nat) (x:Template),j<i->t[j]? =some x->x.Name∉An o->Op.bytesLess x.Name y.Name=false)->
  ∃(b:Nat) (y:Template),t[b]? =some y/\y.Name∉An o/\(∀x∈t,x.Name∉An o->Op.bytesLess x.Name y.Name=false)/\∀r,FB t (o++[y])=some r->Ai q i t o=some r:=by
 intro xs;induction xs with
 |nil=>
  intro i q hd L;have hge:=kJ hd;rcases L with⟨_,L⟩|⟨b,y,rfl,G,K,P⟩
  .obtain⟨x,I,N⟩:=hex;obtain⟨j,Q⟩:=iG.1 I;exact(N (L j x (by have:=(bR.1 Q).1;omega) Q)).elim
  .refine⟨b,y,G,K,λx I N=> ?_,λr S=>EL ?_⟩
   .obtain⟨j,Q⟩:=iG.1 I;grind
   .obtain⟨B,hy⟩:=bR.1 G;rw[aW hd,aA,Bv B,aT,oL B,hy,cC _ af ai af];omega
 |cons x xs ih=>intro i q hd L;have hil:=dN hd;have I:=bV hd;have V:f515 o x.Name=some (tpos o x.Name):=UZ _ _ af;have f2:decide (tpos o x.Name<0)= !(o.any λy=>y.Name==x.Name):=KK _ _ _;cases e:o.any λy=>y.Name==x.Name with
  |true=>
   have U:=RI.1 e
   obtain⟨b,y,G,K,P,h4⟩:=ih (i+1) q (aH hd) (by
    rcases L with⟨O,L⟩|⟨b,y,O,G,K,P⟩
    .refine .inl ⟨O,λj z Q D=> ?_⟩;by_cases R:j=i
     .subst R;rw[I] at D;cases D;exact U
     .exact L j z af D
    .refine .inr ⟨b,y,O,G,K,λj z Q D N=> ?_⟩;by_cases R:j=i
     .subst R;rw[I] at D;cases D;exact(N U).elim
     .exact P j z af D N)
   refine⟨b,y,G,K,P,λr S=>EL ?_⟩;rw[aP hd,ak,mh hd,me hd,V,aj,f2,e,dS,aA,aN hd af];exact h4 r S
  |false=>
   have U:x.Name∉An o:=λh=>by rw[RI.2 h] at e;cases e
   rcases L with⟨O,L⟩|⟨b,y,O,G,K,P⟩
   .obtain⟨b,y,G,K,P,h4⟩:=ih (i+1) i (aH hd) (.inr ⟨i,x,rfl,I,U,λj z Q D N=>by
     by_cases R:j=i
     .subst R;rw[I] at D;cases D;exact Cm _
     grind⟩)
    refine⟨b,y,G,K,P,λr S=>EL ?_⟩;rw[aP hd,ak,mh hd,me hd,V,aj,f2,e,fS,ak,O,cond_pos (by rfl),aN hd af];exact h4 r S
   .obtain⟨B,hy⟩:=bR.1 G;cases e2:Op.bytesLess x.Name y.Name with
    |true=>
     obtain⟨c,z,g1,g2,g3,g4⟩:=ih (i+1) i (aH hd) (.inr ⟨i,x,rfl,I,U,λj z Q D N=>by
      by_cases R:j=i
      .subst R;rw[I] at D;cases D;exact Cm _
      .have:=P j z af D N
       grind[Op.bytesLess,vK]⟩)
     refine⟨c,z,g1,g2,g3,λr S=>EL ?_⟩;rw[aP hd,ak,mh hd,me hd,V,aj,f2,e,fS,ak,O,cond_neg (by rfl),mh hd,me hd,Bv B,aT,oL B,hy,e2,ak,aN hd af];simp_all
    |false=>
     obtain⟨c,z,g1,g2,g3,g4⟩:=ih (i+1) b (aH hd) (.inr ⟨b,y,rfl,G,K,λj z Q D N=>by grind⟩);refine⟨c,z,g1,g2,g3,λr S=>EL ?_⟩;rw[aP hd,ak,mh hd,me hd,V,aj,f2,e,fS,ak,O,cond_neg (by rfl),mh hd,me hd,Bv B,aT,oL B,aN hd af];simp_all
def h504_11 {t:List Template} (ht:t.length<=1000) (L:(An t).Nodup):∀(k:Nat) (o:List Template),t.length=o.length+k->L2 o->(∀x∈o,x∈t)->(∀x∈t,x.Name∉An o->∀y∈o,Op.bytesLess y.Name x.Name=true)->
  ∃m,FB t o=some (m,0)/\L2 m/\m.length=t.length/\∀x∈m,x∈t:=by
 intro k;induction k with
 |zero=>simp_all[X2,cond_neg,aQ]
 |succ k ih=>
  intro o hl V hm D;have B:∃x∈t,x.Name∉An o:=by
   by_cases h:∃x∈t,x.Name∉An o
   .exact h
   .exfalso;have:=jA (m:=An o) L λs hs=>by
     grind
    grind
  obtain⟨b,y,Q,R,S,h4⟩:=h504_14 ht af B t 0 (-1) rfl (.inl ⟨rfl,λj x hj=>by omega⟩);have N:=aR Q;have z:An (o++[y])=An o++[y.Name]:=ai
  obtain⟨m,g1,P⟩:=ih (o++[y]) aI (by
   unfold L2;rw[rP]
   exact⟨V,rY _ _,λa q c U=>by rw[cQ.1 U];exact D y N R a q⟩) (λx O=>by
   grind) λx O G a q=>by
    rw[z] at G;have I:x.Name∉An o:=λh=>G (cO _ h)
    have K:x.Name≠y.Name:=λh=>G (by simp_all)
    rcases bu.1 q with q|q
    .simp_all
    .rw[cQ.1 q];exact Bl _ _ (S x O I) K
  exact⟨m,X2 (by grind),P⟩
def Yf {ns:List cn} {l:List Def}:∀(xs:List Def) (i:Nat) (q:Int),l.drop i=xs->nxt ns l xs i q=q\/∃(j:Nat) (x:Def),nxt ns l xs i q=(j:Int)/\l[j]? =some x/\x.Name∉ns
 |[],_,q,_=> .inl rfl
 |x::xs,i,q,hd=>by
  unfold nxt;have key:=λb=>Yf (ns:=ns) (l:=l) xs (i+1) b (aH hd)
  split
  .rename_i h;rcases key (i:Int) with z|z
   .refine .inr ⟨i,x,z,bV hd,λB=> ?_⟩;rw[aV] at h
    have:(ns.any λn=>n==x.Name)=true:=nJ.2 ⟨_,B,ai⟩
    rw[this] at h;simp at h
   .exact .inr z
  .exact key q
section
variable {h:aK} {T F:Nat} {sb:Int->Int->Prop} {bQ:Int->Int} {val:Int->Int->Int} (H:HX h T F sb bQ val) (hT:T<=1000) (hF:F<=300) (uG:0<T)
include H hT hF uG
section
variable {t:List Template} (ht:t.length<=1000) (hs:RE T F t)
include ht hs
theorem h527_14 {l:List cn} (hl:l.length<=1000) {o6:Template} {o8:FSt} {nm:cn} {a b d:List Node} {c:List FSt} {M:Nat} (R:M<=10000000) (I:∀x∈t,x.fc.length<=M) (L:∀s∈l,∃(i:Nat) (x:Template),tpos t s=(i:Int)/\t[i]? =some x):∀(xs:List cn) (i:Nat) (w:List FSt),l.drop i=xs->w.length+M *xs.length<=1000000000->
  ∃q,FF l i o6 o8 nm a b c d w t=some ((⟨nm,⟨a⟩,q⟩,0),t)/\q.length<=w.length+M *xs.length:=by
 intro xs;induction xs with
 |nil=>intro i w hd N;exact⟨w,X3 (by rw[aW hd,aA]),af⟩
 |cons s xs P=>
  intro i w hd N;obtain⟨j,x,Q,B⟩:=L s (aR (bV hd));obtain⟨z,O⟩:=bR.1 B;have K:=I x (aR B);have S:M *(s::xs).length=M *xs.length+M:=by rw[bD,Nat.mul_succ]
  obtain⟨q,D,G⟩:=P (i+1) (w++x.fc) (aH hd) (by rw[cE];omega);rw[cE] at G;refine⟨q,X3 ?_,af⟩;rw[aP hd,ak,aJ hd,(UZ _ _ af).trans (aU some Q),aj,Bv z,aT,oL z,O,cC _ af af af,aN hd af];exact D
theorem h527_6 {x:Def} (I:YV x) {r8 o6:Template} {o8:FSt} {nm:cn} {a b d:List Node} {c:List FSt} {Q:(Template×Int)×List Template->Prop} (O:∀e,e≠0->Q ((⟨[],⟨[]⟩,[]⟩,e),t)):∀(xs:List bI) (i:Nat) (w:List FSt),x.fc.drop i=xs->w.length+xs.length<=3->
  (∀L,L.length<=3->∃r,(Option.bind (f548 x.gZ ([]:List cn)) λq=>FF q 0 o6 o8 nm a b c d L t)=some r/\Q r)->∃r,LI i h x o6 o8 nm a b c d w t=some r/\Q r:=by
 have P:=I.dl;intro xs;induction xs with
 |nil=>intro i w hd G D;obtain⟨r,N,z⟩:=D w (by simp at G;omega);exact⟨r,VS (by rw[aW hd,aA];exact N),z⟩
 |cons y xs R=>
  intro i w hd G D;rw[bD] at G;have K:=I.df y (aR (bV hd));obtain⟨f,e,z,_⟩:=FV (u:=[]) H hT hF ht hs uG K.lg (by have:=K.cnt;omega);by_cases B:e=0
  .obtain⟨r,S,U⟩:=R (i+1) (w++[f]) (aH hd) aI D;refine⟨r,VS ?_,U⟩;rw[aP hd,ak,aJ hd,z,j9,cond_neg (by simp[B]),cC _ af ai af,aN hd af];exact S
  .refine⟨_,VS ?_,O e B⟩;rw[aP hd,ak,aJ hd,z,j9,cond_pos (by simpa using B)]
theorem c527 {x:Def} (B:YV x) {M:Nat} (hM:M<=1000000) (S:∀y∈t,y.fc.length<=M):∃c e,f527 h x t=some ((c,e),t)/\(e=0->c.Name=x.Name/\(Can T F c.gZ/\c.gZ.au.length<=4096)/\c.fc.length<=3+12 *M):=by
 obtain⟨f,e,L,_,O,Q⟩:=FV (u:=[]) H hT hF ht hs uG B.st.lg (by have:=B.st.cnt;omega);have P:=Q.kn;by_cases z:e=0
 .have G:Can T F f/\f.au.length<=4096:=by
   rcases O with⟨_,D,R⟩|⟨D,_⟩
   .exact⟨D,R⟩
   .exact(D z).elim
  have U:=B.st.cnt;obtain⟨l,w1,K,w3⟩:=c548 x.gZ B.st.fm [] aI;have V:∀s∈l,∃(i:Nat) (y:Template),tpos t s=(i:Int)/\t[i]? =some y:=w3 (λs=>∃(i:Nat) (y:Template),tpos t s=(i:Int)/\t[i]? =some y) ((P z).imp λd q ho=>q.tm ho) (λs hs=>by cases hs);have I:l.length<=12:=by simp at K;omega
  obtain⟨r,j1,j2⟩:=h527_6 H hT hF uG ht hs B (o6:=⟨[],⟨[]⟩,[]⟩) (o8:=f) (nm:=x.Name) (a:=f.au) (b:=[]) (c:=[]) (d:=[]) (r8:=⟨[],⟨[]⟩,[]⟩)
   (Q:=λr=>∃c e,r=((c,e),t)/\(e=0->c.Name=x.Name/\(Can T F c.gZ/\c.gZ.au.length<=4096)/\c.fc.length<=3+12 *M)) (λe z=>⟨_,e,rfl,λh=>(z h).elim⟩) x.fc 0 [] rfl (by simpa using B.dl) (λw' hw'=>by
    have hm:M *l.length<=M *12:=Bc _ I;obtain⟨K,v1,v2⟩:=h527_14 H hT hF uG ht hs af (o6:=⟨[],⟨[]⟩,[]⟩) (o8:=f) (nm:=x.Name) (a:=f.au) (b:=[]) (c:=[]) (d:=[]) (M:=M) af S V l 0 w' rfl af
    exact⟨_,by rw[w1,aj];exact v1,_,0,rfl,λ_=>⟨rfl,G,by show K.length<=_;omega⟩⟩)
  obtain⟨c,N,rfl,j3⟩:=j2;refine⟨c,N,e527 ?_,j3⟩;rw[L,j9,cond_neg (by simp[z])];exact j1
 .refine⟨⟨[],⟨[]⟩,[]⟩,e,e527 ?_,λh=>(z h).elim⟩;rw[L,j9,cond_pos (by simpa using z)]
end
structure TOk (T F:Nat) (t:List Template):Prop where
 wT:L2 t
 len:t.length<=4
 str:RE T F t
theorem h504_5 {l:List Def} (hl:l.length<=4) (hd:∀x∈l,YV x) {ns:List cn} (hq:Seq l ns):∀(t:List Template),An t=ns->t.length<=4->RE T F t->(An t).Nodup->(∀x∈t,x.fc.length<=50^ t.length)->
  ∃m e,LG l h t=some (m,e)/\(e=0->TOk T F m):=by
 induction hq with
 | @fin ns hln=>
  intro t G ht4 hs z U;have SN:t.length=ns.length:=by rw[<-G,bz]
  obtain⟨m,O,Q,g3,R⟩:=h504_11 (t:=t) af z t.length [] ai List.Pairwise.nil (λx I=>by cases I) (λx _ _ y q=>by cases q);refine⟨m,0,VN ?_,λ_=>⟨Q,by omega,λx I=>hs x (R x I)⟩⟩;rw[cond_neg (by rw[aQ];omega)];exact O
 | @step ns b x hlt D B _ ih=>
  intro t G ht4 hs z U;have SN:t.length=ns.length:=by rw[<-G,bz]
  obtain⟨e1,_⟩:=c526 (t:=t) af af hd;rw[show t.map (·.Name)=ns from G,D] at e1;obtain⟨K,I⟩:=bR.1 B;have hp:50^ t.length<=50^ 3:=uU af af;obtain⟨c,e,O,Q⟩:=c527 H hT hF uG af hs (hd x (aR B)) (M:=50^ t.length) af U;by_cases P:e=0
  .obtain⟨g3,R,g5⟩:=Q P;have L:x.Name∉ns:=by
    rcases Yf (ns:=ns) (l:=l) l 0 (-1) rfl with S|⟨j,y,S,h2,h3⟩
    .rw[D] at S;omega
    .rw[D] at S
     have:b=j:=af
     subst this;rw[B] at h2;cases h2;exact h3
   have N:An (t++[c])=ns++[x.Name]:=by simp[G,g3]
   have V:50^ (t.length+1)=50 *50^ t.length:=by rw[Nat.pow_succ,Nat.mul_comm]
   have h1p:1<=50^ t.length:=Nat.one_le_pow _ _ af
   obtain⟨m,e3,j1,j2⟩:=ih (t++[c]) N aI (λy q=>by
    rcases bu.1 q with q|q
    .exact hs y q
    .rw[cQ.1 q];exact R) (by
    rw[N,ig];rw[G] at z
    exact⟨z,by simp,λa ha b hb=>by rw[cQ.1 hb];exact λe=>L (e▸ha)⟩) (λy q=>by
    rw[cE,dV,V];rcases bu.1 q with q|q
    .have:=U y q;omega
    .rw[cQ.1 q];omega)
   refine⟨m,e3,VN ?_,j2⟩;rw[cond_pos (by rw[bg];omega),e1,aj,bU K,I,O,j9,cond_neg (by simp[P]),cC _ af ai af];exact j1
  .refine⟨[],e,VN ?_,λh=>(P h).elim⟩;rw[cond_pos (by rw[bg];omega),e1,aj,bU K,I,O,j9,cond_pos (by simpa using P)]
theorem c504 {l:List Def} (hl:l.length<=4) (hd:∀x∈l,YV x):∃m e,f504 h l=some (m,e)/\(e=0->TOk T F m):=by
 obtain⟨r,B,D⟩:=c512 hl hd;by_cases q:r=0
 .obtain⟨m,e,G,I⟩:=h504_5 H hT hF uG hl hd (D q).1 [] rfl ai (λx z=>by cases z) ai (λx z=>by cases z);exact⟨m,e,e504 (by rw[B,aj,cond_neg (by simp[q])];exact G),I⟩
 .exact⟨[],r,e504 (by rw[B,aj,cond_pos (by simpa using q)]),λh=>(q h).elim⟩
end
section
variable {h:aK} {T F:Nat} {sb:Int->Int->Prop} {bQ:Int->Int} {val:Int->Int->Int} (H:HX h T F sb bQ val) (hT:T<=1000) (hF:F<=300) (uG:0<T)
include H hT hF uG
theorem c498 (c:Case):∃t b,f498 h c=some (t,b)/\(b=true->TOk T F t/\LD c.X/\LD c.Y):=by obtain⟨D,e1,B⟩:=c502 c.Defs;obtain⟨G,q,O⟩:=c503 c.X;obtain⟨I,z,P⟩:=c503 c.Y;cases D with
 |false=>exact⟨[],false,e498 (by rw[e1,aj,cond_pos (by rfl)]),λh=>by cases h⟩
 |true=>cases G with
  |false=>exact⟨[],false,e498 (by rw[e1,aj,cond_neg (by rfl),q,aj,cond_pos (by rfl)]),λh=>by cases h⟩
  |true=>cases I with
   |false=>exact⟨[],false,e498 (by rw[e1,aj,cond_neg (by rfl),q,aj,cond_neg (by rfl),z,aj,cond_pos (by rfl)]),λh=>by cases h⟩
   |true=>obtain⟨m,e,K,L⟩:=c504 H hT hF uG (B rfl).1 (B rfl).2;refine⟨m,e==0,e498 ?_,λN=>⟨L (by simpa using N),O rfl,P rfl⟩⟩;rw[e1,aj,cond_neg (by rfl),q,aj,cond_neg (by rfl),z,aj,cond_neg (by rfl),K,aj]
end
end Go.Proofs.YthphfjcnkinkpaaGreatDoor.cl.pf
set_option maxRecDepth 100000
namespace Go.Proofs.YthphfjcnkinkpaaGreatDoor.cl
open Go Go.AM Go.RowKit Go.ChangeShapes Go.WideShapes Go.ChangeAt
def zK {T:Type} {q:T->List AV}:∀{xs:List (List AV)},(∀x∈xs,∃y:T,x=q y)->∃l:List T,xs=l.map q:=by intro xs;induction xs with
 |nil=>intro _;exact⟨[],rfl⟩
 |cons x xs D=>
  intro h;obtain⟨y,rfl⟩:=h x ai;obtain⟨l,rfl⟩:=D λz B=>h z (by simp[B])
  exact⟨y::l,rfl⟩
section
variable {H:Type} {enc:TypeId×Value->H} {w:World}
def pe:vG (H:=H) Rows.uptoBulk Rows.uptoBulkAll where
 str:=λ_=>rfl
 lit:=λl=>by cases l<;>simp[Rows.uptoBulk]
 nil:=by simp[Rows.uptoBulk]
 slice:=λ_ _=>by simp[Rows.uptoBulk]
 agg:=λ_=>by simp[Rows.uptoBulk]
 nilA:=by simp[Rows.uptoBulkAll]
 aa6:=λ_ _=>by simp[Rows.uptoBulkAll]
def rd57 (n:Nat):Au enc P w Rows.uptoBulk n 68 λq=>∃x:cz,q=x.enc:=by cases n with
 |zero=>exact Au.zero
 |succ n=>
  refine(rD pe (Qs:=[λa=>∃x,a=dW .i64 x,λa=>∃x,a=dW .i64 x]) Tryz.underlying68 (by kernel_rfl) (by kernel_rfl) ?_).mono ?_
  .exact⟨PJ pe Tryz.underlying3,PJ pe Tryz.underlying3,trivial⟩
  .rintro a ⟨_,_,rfl,⟨z,rfl⟩,_,_,rfl,⟨B,rfl⟩,rfl⟩;exact⟨⟨z,B⟩,rfl⟩
def rd58 (n:Nat):Au enc P w Rows.uptoBulk n 69 λq=>∃l:List cz,q=[.dG 2 (l.map cz.enc)]:=by cases n with
 |zero=>exact Au.zero
 |succ n=>refine(Fe pe (sz:=2) Tryz.underlying69 (by kernel_rfl) (by decide) (rd57 n)).mono ?_;rintro a ⟨xs,rfl,z⟩;obtain⟨l,rfl⟩:=zK z;exact⟨l,rfl⟩
def rd60 (n:Nat):Au enc P w Rows.uptoBulk n 71 λq=>∃x:Node,q=x.enc:=by cases n with
 |zero=>exact Au.zero
 |succ n=>
  refine(rD pe (Qs:=[λa=>∃x,a=dW .i64 x,λa=>∃l:List cz,a=[.dG 2 (l.map cz.enc)]]) Tryz.underlying71 (by kernel_rfl) (by kernel_rfl) ?_).mono ?_
  .exact⟨PJ pe Tryz.underlying3,rd58 n,trivial⟩
  .rintro a ⟨_,_,rfl,⟨z,rfl⟩,_,_,rfl,⟨B,rfl⟩,rfl⟩;exact⟨⟨z,B⟩,rfl⟩
def rd28 (n:Nat):Au enc P w Rows.uptoBulk n 28 λq=>∃l:List Node,q=[.dG 2 (l.map Node.enc)]:=by cases n with
 |zero=>exact Au.zero
 |succ n=>refine(Fe pe (sz:=2) Tryz.underlying28 (by kernel_rfl) (by decide) (rd60 n)).mono ?_;rintro a ⟨xs,rfl,z⟩;obtain⟨l,rfl⟩:=zK z;exact⟨l,rfl⟩
def rd30 (n:Nat):Au enc P w Rows.uptoBulk n 30 λq=>∃x:FSt,q=x.enc:=by cases n with
 |zero=>exact Au.zero
 |succ n=>
  refine(rD pe (Qs:=[λa=>∃l:List Node,a=[.dG 2 (l.map Node.enc)]]) Tryz.underlying30 (by kernel_rfl) (by kernel_rfl) ?_).mono ?_
  .exact⟨rd28 n,trivial⟩
  .rintro a ⟨_,_,rfl,⟨z,rfl⟩,rfl⟩;exact⟨⟨z⟩,rfl⟩
def KO {T:Type} {z:T->List AV} {t e sz:Nat} (hs:P.underlying t=some (.slice e)) (D:P.cellsOf e=sz) (B:0<sz) {n:Nat} (h:∀n,Au enc P w Rows.uptoBulk n e λq=>∃x:T,q=z x):Au enc P w Rows.uptoBulk n t λq=>∃l:List T,q=[.dG sz (l.map z)]:=by cases n with
 |zero=>exact Au.zero
 |succ n=>refine(Fe pe (sz:=sz) hs D B (h n)).mono ?_;rintro a ⟨xs,rfl,G⟩;obtain⟨l,rfl⟩:=zK G;exact⟨l,rfl⟩
def rd167 (n:Nat):Au enc P w Rows.uptoBulk n 179 λq=>∃x:dP,q=x.enc:=by cases n with
 |zero=>exact Au.zero
 |succ n=>
  refine(rD pe (Qs:=[λa=>∃x,a=pE x,λa=>∃x,a=pE x]) Tryz.underlying179 (by kernel_rfl) (by kernel_rfl) ?_).mono ?_
  .exact⟨DN pe Tryz.underlying9,DN pe Tryz.underlying9,trivial⟩
  .rintro a ⟨_,_,rfl,⟨s,rfl⟩,_,_,rfl,⟨v,rfl⟩,rfl⟩;exact⟨⟨s,v⟩,rfl⟩
def rd116 (n:Nat):Au enc P w Rows.uptoBulk n 124 λq=>∃x:aC,q=x.enc:=by cases n with
 |zero=>exact Au.zero
 |succ n=>
  refine(rD pe (Qs:=[λa=>∃x,a=pE x,λa=>∃l:List (List UInt8),a=[.dG 1 (l.map pE)],λa=>∃l:List dP,a=[.dG 2 (l.map dP.enc)]]) Tryz.underlying124 (by kernel_rfl) (by kernel_rfl) ?_).mono ?_
  .exact⟨DN pe Tryz.underlying9,KO Tryz.underlying24 (by kernel_rfl) (by decide) λn=>DN pe (n:=n) Tryz.underlying9,KO Tryz.underlying122 (by kernel_rfl) (by decide) rd167,trivial⟩
  .rintro a ⟨_,_,rfl,⟨s,rfl⟩,_,_,rfl,⟨l,rfl⟩,_,_,rfl,⟨m,rfl⟩,rfl⟩;exact⟨⟨s,l,m⟩,rfl⟩
def rd27:∀n:Nat,(Au enc P w Rows.uptoBulk n 27 λq=>∃x:bI,q=x.gQ)/\Au enc P w Rows.uptoBulk n 25 λq=>∃l:List bI,q=[.dG 4 (l.map bI.gQ)]:=by intro n;induction n with
 |zero=>exact⟨Au.zero,Au.zero⟩
 |succ n z=>
  constructor
  .refine(rD pe (Qs:=[λa=>∃x,a=dW .i64 x,λa=>∃x,a=pE x,λa=>∃l:List (List UInt8),a=[.dG 1 (l.map pE)],λa=>∃l:List bI,a=[.dG 4 (l.map bI.gQ)]]) Tryz.underlying27 (by kernel_rfl) (by kernel_rfl) ?_).mono ?_
   .exact⟨PJ pe Tryz.underlying3,DN pe Tryz.underlying9,KO Tryz.underlying24 (by kernel_rfl) (by decide) λn=>DN pe (n:=n) Tryz.underlying9,z.2,trivial⟩
   .rintro a ⟨_,_,rfl,⟨o,rfl⟩,_,_,rfl,⟨s,rfl⟩,_,_,rfl,⟨p,rfl⟩,_,_,rfl,⟨k,rfl⟩,rfl⟩;refine⟨.mk o s p k,?_⟩;rw[bI.gQ,bI.Sh];rfl
  .refine(Fe pe (sz:=4) Tryz.underlying25 (by kernel_rfl) (by decide) z.1).mono ?_;rintro a ⟨xs,rfl,B⟩;obtain⟨l,rfl⟩:=zK B;exact⟨l,rfl⟩
def Wz (n:Nat):Au enc P w Rows.uptoBulk n 27 λq=>∃x:bI,q=x.enc:=(rd27 n).1.mono λa ⟨x,z⟩=>⟨x,by rw[z,bI.jX]⟩
def rd62 (n:Nat):Au enc P w Rows.uptoBulk n 73 λq=>∃x:Def,q=x.enc:=by cases n with
 |zero=>exact Au.zero
 |succ n=>
  refine(rD pe (Qs:=[λa=>∃x,a=pE x,λa=>∃x:bI,a=x.enc,λa=>∃l:List bI,a=[.dG 4 (l.map bI.gQ)]]) Tryz.underlying73 (by kernel_rfl) (by kernel_rfl) ?_).mono ?_
  .exact⟨DN pe Tryz.underlying9,Wz n,(rd27 n).2,trivial⟩
  .rintro a ⟨_,_,rfl,⟨s,rfl⟩,_,_,rfl,⟨d,rfl⟩,_,_,rfl,⟨l,rfl⟩,rfl⟩;exact⟨⟨s,d,l⟩,rfl⟩
def rd32 (n:Nat):Au enc P w Rows.uptoBulk n 32 λq=>∃x:Case,q=x.enc:=by cases n with
 |zero=>exact Au.zero
 |succ n=>
  refine(rD pe (Qs:=[λa=>∃l:List aC,a=[.dG 3 (l.map aC.enc)],λa=>∃l:List Def,a=[.dG 6 (l.map Def.enc)],λa=>∃x:bI,a=x.enc,λa=>∃x:bI,a=x.enc,λa=>∃x:FSt,a=x.enc]) Tryz.underlying32 (by kernel_rfl) (by kernel_rfl) ?_).mono ?_
  .exact⟨KO Tryz.underlying22 (by kernel_rfl) (by decide) rd116,KO Tryz.underlying23 (by kernel_rfl) (by decide) rd62,Wz n,Wz n,rd30 n,trivial⟩
  .rintro a ⟨_,_,rfl,⟨d,rfl⟩,_,_,rfl,⟨l,rfl⟩,_,_,rfl,⟨x,rfl⟩,_,_,rfl,⟨y,rfl⟩,_,_,rfl,⟨f,rfl⟩,rfl⟩;exact⟨⟨d,l,x,y,f⟩,rfl⟩
end
def Ei {T:Type} {en:T->List AV} (h:∀x,1<=ny (en x)):∀l:List T,l.length<=Bo (l.map en)
 |[]=>by simp
 |x::l=>by have q:=Ei h l;have z:=h x;simp only[bS,bD,Bo];omega
def sz_of {d:List aC} (h:Bo (d.map aC.enc)<=1048576):Sz d/\Fz d:=by
 have key:∀t∈d,t.ee.length<=1048576/\t.bC.length<=1048576:=λt ht=>by have q:=Y4 (nP (f:=aC.enc) ht);have z:=Ei (en:=pE) (λx=>by simp only[pE,ny,AV.bulk];omega) t.ee;have B:=Ei (en:=dP.enc) (λx=>by simp only[dP.enc,ny,AV.bulk];omega) t.bC;simp only[aC.enc,ny,AV.bulk] at q;omega
 have D:=Ei (en:=aC.enc) (λx=>by simp only[aC.enc,ny,AV.bulk];omega) d;exact⟨⟨af,λt ht=>(key t ht).1⟩,λt ht=>(key t ht).2⟩
def sz_case {x:Case} (h:ny x.enc<=1048576):Sz x.Decls/\Fz x.Decls:=by refine sz_of ?_;simp only[Case.enc,ny,AV.bulk] at h;omega
end Go.Proofs.YthphfjcnkinkpaaGreatDoor.cl
namespace Go.Proofs.YthphfjcnkinkpaaGreatDoor.cl
open Go Go.AM Go.RowKit
def T3 {r:AV} {v:Value} {P:Mu} {B:Nat->Value} {w N:World} {e O g n D:Nat} {ys:List (List AV)} {us:List Value} {cur z:Array Value}
  (oH:L0 P w) (G:B 10000= .slice (some ⟨g,0,none⟩) n D) (Q:n<=D) (R:D<=maxLen) (L:cur.size=D *O) (V:Ib w.heap.size (iq False B [10000]) 10000 g) (S:∀j,P g j=none)
  (hg:N.heap[g]? =some (.cells z e (0,0))) (hs:z.size=cur.size) (BE:z.toList.take (n *O)=us) (Ho:us.length=n *O) (K:∀b,b<w.heap.size->b≠g->N.heap[b]? =w.heap[b]?)
  (hos:N.os=w.os) (ht:N.tape=w.tape) (U:N.output=w.output) (hgr:w.heap.size<=N.heap.size) (I:ys.length=n) (hrc:dc P O ys us) (hres:rep P r v\/∃n A m c,r= .self n/\B 10000= .slice A m c/\n<=m/\v= .slice A n c):
  fL False P B [10000] r [(10000, .row e O ys)] w v P B N where
 ext:=Mu.ext.toL ⟨Mu.le.refl _,λ_ _ _ h=> .inl h⟩
 yc:=λb j x hx=>by
  have h:=oH b j x hx;have hne:b≠g:=λe=>by subst e;rw[S j] at hx;cases hx
  rw[ji (K b (sO h) hne) j];exact h
 res:=hres.imp id λ⟨n,A,m,c,h1,h2,h3,h4⟩=> .inl ⟨n,A,m,c,h1,by simp,h2,h3,h4⟩
 obs:=λid o h=>by
  have hid:=vS h;subst hid;have ho:Ob.row e O ys=o:=by simpa[find] using h
  subst ho;refine⟨us,⟨by rw[Ho,I], .inr ⟨g,D,z,by rw[G,I],cZ _,hg,by rw[I];exact Q,R,by rw[hs,L],by rw[I];exact BE⟩⟩,hrc,λq hq=> ?_⟩
  have:q=g:=by rw[G] at hq;have h2:some g=some q:=iS.1 hq;exact(fR h2).symm
  subst this;exact⟨V,S⟩
 apart:=λi j oi oj hi hj hij=>absurd ((vS hi).trans (vS hj).symm) hij
 keep:=λb hlt hl=>K b hlt (λe=>by
  subst e
  exact hl ⟨10000,B 10000,by simp[iq],by rw[G];exact iS.2 rfl⟩)
 fix:=λ_ _ _ _=>rfl
 os:=hos
 tape:=ht
 output:=U
 grown:=hgr
 drawn:=λh=>h.elim
def NB {S:Mu} {B:Nat->Value} {w G:World} {e R g n z:Nat} {ys:List (List AV)} {us:List Value} {cur q:Array Value}
  (Q:L0 S w) (K:B 10000= .slice (some ⟨g,0,none⟩) n z) (I:n<=z) (L:z<=maxLen) (D:cur.size=z *R) (P:Ib w.heap.size (iq False B [10000]) 10000 g) (V:∀j,S g j=none)
  (hg:G.heap[g]? =some (.cells q e (0,0))) (hs:q.size=cur.size) (BE:q.toList.take (n *R)=us) (Ho:us.length=n *R) (N:∀b,b<w.heap.size->b≠g->G.heap[b]? =w.heap[b]?)
  (hos:G.os=w.os) (ht:G.tape=w.tape) (O:G.output=w.output) (U:w.heap.size<=G.heap.size) (hyl:ys.length=n) (hrc:dc S R ys us):
  fL False S B [10000] (.gX []) [(10000, .row e R ys)] w (.tuple #[]) S B G:=
 T3 Q K I L D P V hg hs BE Ho N hos ht O U hyl hrc (.inl (by rw[rep.eq_def];exact⟨[],rfl,rfl⟩))
