/- Lists. -/
import Derived.Test.YthphfjcnkinkpaaGreatDoorClWn
import Derived.Test.YthphfjcnkinkpaaGreatDoorClWm
import Derived.Test.YthphfjcnkinkpaaGreatDoorClQc
import Derived.Test.YthphfjcnkinkpaaGreatDoorClUh
set_option linter.all false
open Go.IntKind (wrap)
namespace Go.Proofs.YthphfjcnkinkpaaGreatDoor.cl.pf
open Go Go.AM
def CQ {f:FSt} {n:Nat} {x:Node} (h:f.ak[n]? =some x):iN f n=UJ x:=by unfold iN;rw[h]
def CZ {f:FSt} {n:Nat} {x:Node} (h:f.ak[n]? =some x):oB f n=x.di:=by unfold oB;rw[h]
theorem aed (a b:Nat) (x:Node):sZ a (sZ b x)=sZ (b+a) x:=by simp_all[sZ,uD,Int.add_assoc]
def aee (x:Node):sZ 0 x=x:=by simp_all[sZ,uD]
def abu {T F:Nat} {L:List Node} {a:Nat} {f:FSt} (hf:Can T F f) (h:∀i x,f.ak[i]? =some x->L[a+i]? =some (sZ a x)):Y1 (jj ⟨L⟩) a f:=λi q=>by
 have e:=aM q;have l :=h i _ e;refine⟨?_,?_⟩
 .show oB _ _=_;rw[CZ l,CZ e];rfl
 .show iN _ _=_;rw[CQ l,CQ e];refine(Uk (hf.ao (bU _))).trans (gP λp _=> ?_);grind
def wT (co en fi re:Int) (f g:FSt):List Node:=
 ([⟨co,[⟨fi,1⟩,⟨re,((1+f.ak.length:Nat):Int)⟩]⟩]++f.ak.map (sZ 1))++[⟨co,[⟨fi,((2+f.ak.length:Nat):Int)⟩,⟨re,((2+f.ak.length+g.ak.length:Nat):Int)⟩]⟩]++g.ak.map (sZ (2+f.ak.length))++[⟨en,[]⟩]
theorem Tt {co en fi re:Int} {f g:FSt}:(wT co en fi re f g).length=f.ak.length+g.ak.length+3:=by unfold wT;grind
section
variable {T F:Nat} {co en fi re:Int} {f g:FSt} (hf:Can T F f) (hg:Can T F g) (pre:List Node)
include hf hg
theorem NC:RK (jj ⟨pre++(wT co en fi re f g).map (sZ pre.length)⟩) pre.length f g co en fi re:=by
 have get:∀{i x},(wT co en fi re f g)[i]? =some x->(FSt.mk (pre++(wT co en fi re f g).map (sZ pre.length))).ak[pre.length+i]? =some (sZ pre.length x):=λ{i x} h=>by grind
 have B:(wT co en fi re f g)[0]? =some ⟨co,[⟨fi,1⟩,⟨re,((1+f.ak.length:Nat):Int)⟩]⟩:=rfl;have D:∀{i x},f.ak[i]? =some x->(wT co en fi re f g)[1+i]? =some (sZ 1 x):=λ{i x} h=>by have K:=(bP.1 h).1;unfold wT;rw[eU aH,eU aH,eU aH,fP ai,c4,nQ,dA,h];rfl
 have G:(wT co en fi re f g)[1+f.ak.length]? =some ⟨co,[⟨fi,((2+f.ak.length:Nat):Int)⟩,⟨re,((2+f.ak.length+g.ak.length:Nat):Int)⟩]⟩:=by unfold wT;rw[eU aH,eU aH,fP aH];simp[show 1+f.ak.length-(f.ak.length+1)=0 by omega]
 have N:∀{i x},g.ak[i]? =some x->(wT co en fi re f g)[2+f.ak.length+i]? =some (sZ (2+f.ak.length) x):=λ{i x} h=>by have K:=(bP.1 h).1;unfold wT;rw[eU aH,fP aH];simp only[bQ,bf,c4];rw[show 2+f.ak.length+i-(1+f.ak.length+1)=i by omega,dA,h];rfl
 have I:(wT co en fi re f g)[2+f.ak.length+g.ak.length]? =some ⟨en,[]⟩:=by unfold wT;rw[fP aH];simp only[bQ,bf,c4];rw[show 2+f.ak.length+g.ak.length-(1+f.ak.length+1+g.ak.length)=0 by omega];rfl
 have z:=get B;have l:=get G;have q:=get I;refine⟨CZ z,(CQ z).trans ?_,abu hf λi x h=> ?_,?_,?_,abu hg λi x h=> ?_,?_,?_⟩
 .simp[sZ,uD,UJ];omega
 .have:=get (D h);rw[aed,<-gE,jS 1 _] at this;exact this
 .rw[<-gE] at l;exact CZ l
 .rw[<-gE] at l;refine(CQ l).trans ?_;simp[sZ,uD,UJ,Mz];omega
 .grind[aed]
 .rw[<-gE,<-gE] at q;exact CZ q
 .rw[<-gE,<-gE] at q;exact CQ q
end
def Px {f:FSt} {n:Nat} {p:Int×Nat}:p∈AB f n↔p∈iN f n:=by unfold AB iN;cases f.ak[n]? with
 |none=>rfl
 |some x=>show p∈(Bj _).map _↔p∈x.bV.map _;rw[aD,aD];exact exists_congr λa=>and_congr ((qI _).2.2 a) jL
def abY {sb:Int->Int->Prop} {f:FSt} {r:Nat} {H:Gr} {s:Nat} {m:Nat->Nat}:tK sb (yA f) r H s m↔tK sb (jj f) r H s m:=by
 have B:∀{i},kO (AB f) r i->kO _ r i:=λh=>by induction h with
  |root=>exact .root
  |step _ l z=>exact z.step (Px.1 l)
 have D:∀{i},kO (iN f) r i->kO _ r i:=λh=>by induction h with
  |root=>exact .root
  |step _ l z=>exact z.step (Px.2 l)
 exact⟨λh=>⟨h.1,λi q=>⟨(h.2 i (D q)).1,λp l=>(h.2 i (D q)).2 p (Px.2 l)⟩⟩,λh=>⟨h.1,λi q=>⟨(h.2 i (B q)).1,λp l=>(h.2 i (B q)).2 p (Px.1 l)⟩⟩⟩
def Sd {T F:Nat} {sb:Int->Int->Prop} (hT:TO T sb) {L C:FSt} (B:GO T F (yA L) L.ak.length) (h0:0<L.ak.length):Le sb (kj (yA L) L.ak.length 0) C↔∃m,tK sb (jj L) 0 (jj C) 0 m:=
 ⟨λ⟨m,h⟩=>⟨_,abY.1 (tK.comp (s1:=sb) (s2:=sb) (λh l=>hT.trans h l) (O1 B h0 λq z=>hT.refl q z) h)⟩,
  λ⟨m,h⟩=>⟨_,tK.comp (s1:=sb) (s2:=sb) (λh l=>hT.trans h l) (IW B h0 λq z=>hT.refl q z) (abY.2 h)⟩⟩
structure GN (T F N:Nat) (x:Node):Prop where
 ty:0<=x.di/\x.di<(T:Int)
 nd:(x.bV.map (·.bB)).Nodup
 ok:∀a∈x.bV,(0<=a.bB/\a.bB<(F:Int))/\0<=a.To/\a.To<(N:Int)
 ln:x.bV.length<=1000
def GN.sh {T F n N k:Nat} {x:Node} (h:GN T F n x) (z:n+k<=N):GN T F N (sZ k x):=by
 refine⟨h.ty,?_,λa l=> ?_,by unfold sZ uD;rw[bf];exact h.ln⟩
 .have:(sZ k x).bV.map (·.bB)=x.bV.map (·.bB):=by unfold sZ uD;rw[eG];rfl
  rw[this];exact h.nd
 .obtain⟨c,q,rfl⟩:=aD.1 l;have:=h.ok c q;grind
def Can.gn {T F:Nat} {f:FSt} (h:Can T F f) (hF:F<=1000):∀x∈f.ak,GN T F f.ak.length x:=λx l=>⟨h.tyr l,(h.ao l).vP.nd,(h.ao l).ok,by have:=(h.ao l).len;omega⟩
section
variable {T F:Nat} {L:FSt} (h0:0<L.ak.length) (h4:L.ak.length<=4096) (hn:∀x∈L.ak,GN T F L.ak.length x)
include h0 h4 hn
theorem Se:f437 L=some (kj (yA L) L.ak.length 0,0)/\GO T F (yA L) L.ak.length/\Can T F (kj (yA L) L.ak.length 0)/\(kj (yA L) L.ak.length 0).ak.length<=4096:=by
 have hg:Hh L:=⟨h0,h4,λx l=>⟨(hn x l).ty.1,λa q=>⟨((hn x l).ok a q).1.1,((hn x l).ok a q).2⟩,(hn x l).nd⟩⟩
 have hs :=λx l=>(hn x l).ln
 have B:∀x∈L.ak,InB T F x:=λx l=>⟨(hn x l).ty.2,λa q=>((hn x l).ok a q).1.2⟩
 have go:=srG_go hg hs B;have z:=sn (hg.bd hs) h0;have:=wC z.nd z.lt;grind[c437g,Vf,Gt]
end
def adw {T F:Nat} {co en fi re:Int} {f g:FSt} (hf:Can T F f) (hg:Can T F g) (hF:F<=1000) (hco:0<=co/\co<(T:Int)) (q:0<=en/\en<(T:Int)) (hfi:0<=fi/\fi<(F:Int)) (hre:0<=re/\re<(F:Int)) (hne:fi≠re):
  ∀x∈wT co en fi re f g,GN T F (f.ak.length+g.ak.length+3) x:=by
 intro x l;unfold wT at l;simp only[bu,cz] at l;have two:∀{a b:Nat},a<f.ak.length+g.ak.length+3->b<f.ak.length+g.ak.length+3->GN T F (f.ak.length+g.ak.length+3) ⟨co,[⟨fi,(a)⟩,⟨re,(b)⟩]⟩:=λ{a b} B D=>by refine⟨hco,by simp[hne],λc G=> ?_,ai⟩;grind
 rcases l with(((rfl|l)|rfl)|l)|rfl
 .exact two (a:=1) af af
 .obtain⟨y,z,rfl⟩:=aD.1 l;exact(hf.gn hF y z).sh af
 .exact two af af
 .obtain⟨y,z,rfl⟩:=aD.1 l;exact(hg.gn hF y z).sh af
 .exact⟨q,by simp,λa B=>(by cases B),ai⟩
def h559_7 {v:Int} {z:List Node} {x:Node} (I:x.bV.length<=100000/\∀a∈x.bV,0<=a.To/\a.To<=1000000) {n:Nat} (hn:n<=1000000) {i:Int} {N:List b9} {w:List Node} (hw:w.length<=1000000) {res:List Node}
  (G:L9 (n:Int) z v (wrap .i64 (i+1)) (w++[sZ n x])=some res):∀(xs:List b9) (j:Nat) (o:List b9),x.bV.drop j=xs->o.length=j->o++uD n xs=uD n x.bV->
  Rm (n:Int) z v i x.bV (x.bV.length:Int) (j:Int) x x.di N o w=some res:=by
 intro xs;induction xs with
 |nil=>
  intro j o l B q;have q:o=uD n x.bV:=by rw[<-q];unfold uD;simp
  refine adr ?_;rw[bp l,aA,cC _ af ai af,q];exact G
 |cons a xs K=>intro j o l B q;have D:=dY l;have O:=I.2 a (aV (cr l));refine adr ?_;rw[aT l,au,aK l,cC _ af ai af,aQ l af,gi af af];refine K (j+1) _ (aI l) aH ?_;rw[<-q];unfold uD;simp
def h559_3 {l:List Node} (B:l.length<=500000/\∀x∈l,x.bV.length<=100000/\∀a∈x.bV,0<=a.To/\a.To<=1000000) {n:Nat} (hn:n<=500000):∀(xs:List Node) (i:Nat) (w:List Node),l.drop i=xs->w.length=n+i->
  L9 (n:Int) l (l.length:Int) (i:Int) w=some (w++xs.map (sZ n)):=by
 intro xs;induction xs with
 |nil=>intro i w q _;exact adq (by rw[bp q,aA];simp)
 |cons x xs D=>intro i w q hw;have z:=dY q;refine adq ?_;rw[aT q,au,aK q];refine h559_7 (B.2 x (aV (cr q))) af af ?_ x.bV 0 [] rfl rfl rfl;rw[aQ q af,D (i+1) _ (aI q) aH];simp
def c559 {l w:List Node} (q:l.length<=500000/\∀x∈l,x.bV.length<=100000/\∀a∈x.bV,0<=a.To/\a.To<=1000000) (hw:w.length<=500000):f559 l w=some (w++l.map (sZ w.length)):=
 e559 (h559_3 q hw l 0 w rfl af)
def GN.ar {T F N:Nat} {l:List Node} (h:∀x∈l,GN T F N x) (B:N<=1000000):∀x∈l,x.bV.length<=100000/\∀a∈x.bV,0<=a.To/\a.To<=1000000:=λx q=>⟨by have:=(h x q).ln;omega,λa z=>by have:=((h x q).ok a z).2;omega⟩
section
variable {T F:Nat} {f g:FSt} (hf:Can T F f) (hg:Can T F g) (hF:F<=1000) (hn:f.ak.length+g.ak.length+4<=4096)
include hf hg hF hn
theorem c552 (w:world) (t:Int):Xv w [f,g] t=some (⟨wT w.cons t w.first w.rest f g⟩,((2+f.ak.length+g.ak.length:Nat):Int)):=by
 have K:=GN.ar (hf.gn hF) af;have N:=GN.ar (hg.gn hF) af;refine e552a (k552_3b ?_);have P:wrap .i64 ((([]:List Node).length:Int)+1)=1:=by rfl
 have Q:wrap .i64 (1+(f.ak.length:Int))=((1+f.ak.length:Nat):Int):=by rw[gi af af];omega
 have G:f559 f.ak ([]++[⟨w.cons,[⟨w.first,1⟩,⟨w.rest,((1+f.ak.length:Nat):Int)⟩]⟩])=some ([⟨w.cons,[⟨w.first,1⟩,⟨w.rest,((1+f.ak.length:Nat):Int)⟩]⟩]++f.ak.map (sZ 1)):=c559 ⟨af,K⟩ ai;rw[cond_pos (by rfl)];show bq [f,g] ((0:Nat):Int) _=_;rw[cH ai];simp only[List.getElem_cons_zero];rw[cC _ ai ai af,P,Q,G,aj];refine Ya ?_;rw[cond_pos (by rfl)];show bq [f,g] ((1:Nat):Int) _=_;rw[cH ai];simp only[vi,List.getElem_cons_zero];obtain⟨l,q⟩:∃l,l=[(⟨w.cons,[⟨w.first,1⟩,⟨w.rest,((1+f.ak.length:Nat):Int)⟩]⟩:Node)]++f.ak.map (sZ 1):=⟨_,rfl⟩
 have D:l.length=1+f.ak.length:=by rw[q];simp;omega
 rw[<-q];have R:wrap .i64 ((l.length:Int)+1)=((2+f.ak.length:Nat):Int):=by rw[gi af af];omega
 have S:wrap .i64 (((2+f.ak.length:Nat):Int)+(g.ak.length:Int))=((2+f.ak.length+g.ak.length:Nat):Int):=by rw[gi af af];omega
 have I:f559 g.ak (l++[⟨w.cons,[⟨w.first,((2+f.ak.length:Nat):Int)⟩,⟨w.rest,((2+f.ak.length+g.ak.length:Nat):Int)⟩]⟩])=some (l++[⟨w.cons,[⟨w.first,((2+f.ak.length:Nat):Int)⟩,⟨w.rest,((2+f.ak.length+g.ak.length:Nat):Int)⟩]⟩]++g.ak.map (sZ (2+f.ak.length))):=by rw[c559 ⟨af,N⟩ aH,bQ,D,c4,show 1+f.ak.length+1=2+f.ak.length by omega]
 rw[cC _ af ai af,R,S,I,aj];refine Ya ?_;obtain⟨B,z⟩:∃B,B=l++[(⟨w.cons,[⟨w.first,((2+f.ak.length:Nat):Int)⟩,⟨w.rest,((2+f.ak.length+g.ak.length:Nat):Int)⟩]⟩:Node)]++g.ak.map (sZ (2+f.ak.length)):=⟨_,rfl⟩
 have O:B.length=2+f.ak.length+g.ak.length:=by rw[z,bQ,bQ,D,bf,c4];omega
 rw[<-z,cond_neg (by rfl),cC _ af ai af];have U:wrap .i64 (((B++[(⟨t,[]⟩:Node)]).length:Int)-1)=((2+f.ak.length+g.ak.length:Nat):Int):=by rw[bQ,O,c4,gi af af];omega
 rw[U,z,q];rfl
theorem c550 {k:Nat} (q:f.ak.length+g.ak.length+2+k<=4096):Ni [f,g] (k:Int)=some true:=by
 have e1:wrap .i64 ((k:Int)+wrap .i64 (1+(f.ak.length:Int)))=((k+1+f.ak.length:Nat):Int):=by rw[gi (n:=1+(f.ak.length:Int)) af af,gi af af];omega
 have l:wrap .i64 (((k+1+f.ak.length:Nat):Int)+wrap .i64 (1+(g.ak.length:Int)))=((k+2+f.ak.length+g.ak.length:Nat):Int):=by rw[gi (n:=1+(g.ak.length:Int)) af af,gi af af];omega
 refine e550a (Pp ?_);rw[cond_pos (by rfl)];show bq [f,g] ((0:Nat):Int) _=_;rw[cH ai];simp only[List.getElem_cons_zero,e1];rw[cond_neg (by rw[aS];omega)];refine Pp ?_;rw[cond_pos (by rfl)];show bq [f,g] ((1:Nat):Int) _=_;rw[cH ai];simp only[vi,List.getElem_cons_zero,l];rw[cond_neg (by rw[aS];omega)];exact Pp (by rw[cond_neg (by rfl)])
variable {h:aJ} {w:world} (hw:f549 h=some (w,0)) (hco:0<=w.cons/\w.cons<(T:Int)) (hfi:0<=w.first/\w.first<(F:Int)) (hre:0<=w.rest/\w.rest<(F:Int)) (hne:w.first≠w.rest)
include hw hco hfi hre hne
theorem c529a (q:0<=w.null/\w.null<(T:Int)):∃Y,Xt h [f,g]=some (Y,0)/\Can T F Y/\Y.ak.length<=4096/\∀(sb:Int->Int->Prop) (C:FSt),TO T sb->(Le sb Y C↔∃k,IT sb C f g w.cons w.null w.first w.rest 0 k):=by
 have D:(FSt.mk (wT w.cons w.null w.first w.rest f g)).ak.length=f.ak.length+g.ak.length+3:=Tt;obtain⟨G,I,K,N⟩:=Se (T:=T) (F:=F) (L:=⟨wT w.cons w.null w.first w.rest f g⟩) af af (by rw[D];exact adw hf hg hF hco q hfi hre hne);refine⟨_,e529a ?_,K,N,λsb C hT=> ?_⟩
 .have z:Ni [f,g] 1=some true:=c550 hf hg hF hn (k:=1) af;rw[e541a (r:=(_,0)) (by rw[hw,aj,cond_neg (by rfl),z,aj,cond_neg (by rfl),e551 rfl,aj,c552 hf hg hF hn,aj,G,aj]),aj]
 .rw[Sd hT I af];have L:=NC (co:=w.cons) (en:=w.null) (fi:=w.first) (re:=w.rest) hf hg [];have e:([]:List Node)++(wT w.cons w.null w.first w.rest f g).map (sZ ([]:List Node).length)=wT w.cons w.null w.first w.rest f g:=by
   rw[dK,show sZ ([]:List Node).length=id from funext λx=>aee x,lJ]
  rw[e] at L;constructor
  .rintro⟨m,l⟩;exact⟨_,(L.hom hf hg).1 ⟨m,l,rfl⟩⟩
  .rintro⟨k,B⟩;obtain⟨m,l,_⟩:=(L.hom hf hg).2 B;exact⟨m,l⟩
theorem c570 (O:0<=w.list/\w.list<(T:Int)) (I:0<=w.Kc/\w.Kc<(T:Int)) (K:0<=w.head/\w.head<(F:Int)) (N:0<=w.last/\w.last<(F:Int)) (P:w.head≠w.last):∃Y,f570 h [f,g]=some (Y,0)/\Can T F Y/\Y.ak.length<=4096/\
  ∀(sb:Int->Int->Prop) (C:FSt),TO T sb->(Le sb Y C↔sb w.Kc (oB C 0)/\∃n k,(w.head,n)∈iN C 0/\(w.last,k)∈iN C 0/\IT sb C f g w.cons w.list w.first w.rest n k):=by
 obtain⟨l,q⟩:∃l,l=wT w.cons w.list w.first w.rest f g:=⟨_,rfl⟩
 have hl:l.length=f.ak.length+g.ak.length+3:=by rw[q];exact Tt
 have z:∀x∈l,GN T F (f.ak.length+g.ak.length+3) x:=by rw[q];exact adw hf hg hF hco O hfi hre hne
 obtain⟨d,D⟩:∃d:Node,d=⟨w.Kc,[⟨w.head,1⟩,⟨w.last,((3+f.ak.length+g.ak.length:Nat):Int)⟩]⟩:=⟨_,rfl⟩
 have U:(FSt.mk ([d]++l.map (sZ 1))).ak.length=f.ak.length+g.ak.length+4:=by show([d]++l.map (sZ 1)).length=_;simp;omega
 obtain⟨y1,y2,y3,y4⟩:=Se (T:=T) (F:=F) (L:=⟨[d]++l.map (sZ 1)⟩) af af (by
  rw[U];intro x B;rcases bu.1 B with B|B
  .rw[cz.1 B,D];refine⟨I,by simp[P],λc G=> ?_,ai⟩;rcases aN.1 G with rfl|G
   .exact⟨K,by simp only[];omega⟩
   .rw[cz.1 G];exact⟨N,by simp only[];omega⟩
  .obtain⟨y,V,rfl⟩:=aD.1 B
   exact(z y V).sh af)
 refine⟨_,e570 ?_,y3,y4,λsb C hT=> ?_⟩
 .have R:Ni [f,g] 2=some true:=c550 hf hg hF hn (k:=2) af;have e1:wrap .i64 (1+((2+f.ak.length+g.ak.length:Nat):Int))=((3+f.ak.length+g.ak.length:Nat):Int):=by rw[gi af af];omega
  have S:f559 l [d]=some ([d]++l.map (sZ 1)):=c559 ⟨af,GN.ar z af⟩ ai;rw[hw,aj,cond_neg (by rfl),R,aj,cond_neg (by rfl),c552 hf hg hF hn,aj];simp only[];rw[e1,<-q,<-D,S,aj,y1,aj]
 .rw[Sd hT y2 af];have L:=NC (co:=w.cons) (en:=w.list) (fi:=w.first) (re:=w.rest) hf hg [d];rw[<-q] at L;have L:RK (jj ⟨[d]++l.map (sZ 1)⟩) 1 f g w.cons w.list w.first w.rest:=L;have Q:(FSt.mk ([d]++l.map (sZ 1))).ak[0]? =some d:=rfl;have t0:(jj ⟨[d]++l.map (sZ 1)⟩).ty 0=w.Kc:=(CZ Q).trans (by rw[D]);have s0:(jj ⟨[d]++l.map (sZ 1)⟩).sc 0=[(w.head,1),(w.last,Mz 1 f g)]:=(CQ Q).trans (by rw[D];simp[UJ,Mz];omega);rw[hom_two s0 (λh=>by have:=L.ge0 hf hg h;omega) (L.end0 hf hg),t0];refine and_congr jL (exists_congr λn=>exists_congr λk=>and_congr jL (and_congr jL (L.hom hf hg)))
end
end Go.Proofs.YthphfjcnkinkpaaGreatDoor.cl.pf
namespace Go.Proofs.YthphfjcnkinkpaaGreatDoor.cl.pf
open Go Go.AM
def TB (h:aJ) (T F:Nat) (sb:Int->Int->Prop) (bN:Int->Int) (val:Int->Int->Int) (t:List Template) (d:bJ):Option FSt->Prop
 |some g=>Can T F g/\WT sb bN val g/\(∀C,Can T F C->Le sb g C->∃ρ,Sat h t sb C ρ d [])/\∀C ρ,Can T F C->WT sb bN val C->Sat h t sb C ρ d []->Le sb g C
 |none=>∀C ρ,Can T F C->WT sb bN val C->Sat h t sb C ρ d []->False
def tbR:Option FSt->FSt×Int
 |some g=>if g.ak.length>4096 then(⟨[]⟩,7) else(g,0)
 |none=>(⟨[]⟩,12)
def sat_rho {h:aJ} {t:List Template} {sb:Int->Int->Prop} {C:FSt} {ρ l:ck->Nat} (d:bJ):gu (λd=>d.Op≠3) d->∀p,Sat h t sb C l d p↔Sat h t sb C ρ d p:=by
 refine og (P:=λd=>gu (λd=>d.Op≠3) d->∀p,Sat h t sb C l d p↔Sat h t sb C ρ d p) (λd G z p=> ?_) d;have k:∀x∈d.Kids,∀p,Sat h t sb C l (id x) p↔Sat h t sb C ρ x p:=λx D p=>G x D (z.kids x D) p
 have e1:=λp=>aeb (g:=id) (p:=p) k
 have q:=λp=>Xr (g:=id) (p:=p) k
 have B:=λp=>Yo (g:=id) (p:=p) k
 simp only[lJ] at e1 q B;rw[uu,uu (d:=d),az z.here,az z.here,e1,e1,q,q,B]
def h565 {o1:bJ} (N:o1.Kids.length<=1000) (q:∀k∈o1.Kids,∃b,f565 k=some b/\(b=false->gu (λd=>d.Op≠3) k)):∀(xs:List bJ) (i:Nat),o1.Kids.drop i=xs->∃b,Ro i o1=some b/\(b=false->∀k∈xs,gu (λd=>d.Op≠3) k):=by intro xs;induction xs with
 |nil=>intro i l;exact⟨false,V1 (by rw[bp l,aA]),λ_ k q=>by cases q⟩
 |cons x xs G=>intro i l;obtain⟨b,z,B⟩:=q x (aV (cr l));cases b with
  |true=>exact⟨true,V1 (by rw[aT l,au,aK l,z,aj,au]),λh=>by cases h⟩
  |false=>
   obtain⟨b,I,K⟩:=G (i+1) (aI l);refine⟨b,V1 (by rw[aT l,au,aK l,z,aj,aA,aQ l af];exact I),λD k q=> ?_⟩;rcases aN.1 q with rfl|q
   .exact B rfl
   .exact K D k q
def c565 (d:bJ):gu (Lt1 12) d->∃b,f565 d=some b/\(b=false->gu (λd=>d.Op≠3) d):=by
 refine og (P:=λd=>gu (Lt1 12) d->∃b,f565 d=some b/\(b=false->gu (λd=>d.Op≠3) d)) (λd K q=> ?_) d;by_cases l:d.Op=3
 .exact⟨true,e565 (by rw[cond_pos (by simpa using l)]),λh=>by cases h⟩
 .have I:=q.here.kl;obtain⟨b,B,D⟩:=h565 (o1:=d) af (λk z=>K k z (q.kids k z)) d.Kids 0 rfl;exact⟨b,e565 (by rw[cond_neg (by simpa using l)];exact B),λG=>⟨d,l,D G⟩⟩
def Uv {f g:FSt} {e:Int} (h:(f,e)=tbR (some g)):(f=⟨[]⟩/\e=7/\g.ak.length>4096)\/(f=g/\e=0/\g.ak.length<=4096):=by
 by_cases l:g.ak.length>4096
 .have e1:tbR (some g)=(⟨[]⟩,7):=aB l;rw[e1] at h;cases h;exact .inl ⟨rfl,rfl,l⟩
 .have e1:tbR (some g)=(g,0):=az l;rw[e1] at h;cases h;exact .inr ⟨rfl,rfl,af⟩
section
variable {h:aJ} {T F:Nat} {sb:Int->Int->Prop} {bN:Int->Int} {val:Int->Int->Int} (H:HX h T F sb bN val) (hT:T<=1000) (hF:F<=300)
include H hT hF
theorem Dd.tb {t:List Template} {d:bJ} {f:FSt} {e:Int} (R:Dd h T F sb t d f e) (S:gu (Kn h t) d):∃y,TB h T F sb bN val t d y/\(f,e)=tbR y:=by
 rcases R with⟨a,_⟩|⟨_,⟨B,l,N,O,q,y,I,K⟩|⟨n,rfl,rfl⟩⟩
 .exact(a S).elim
 .have Q:RL T F sb B B B:=⟨l,Le.refl H.hv.hm.to l,Le.refl H.hv.hm.to l,λC _ h _=>h,λP h _=>h⟩
  rcases S8 H.hv Q (c434 H.hv l N hT af) with⟨g,e1,z⟩|⟨e1,G⟩
  .rw[I] at e1;cases e1;exact⟨some g,⟨z.can,z.wt,λC hC D=>O C hC (Le.trans H.hv.hm.to z.l D),λC ρ hC hw hs=>z.least C hC hw (q C ρ hC hs) (q C ρ hC hs)⟩,K⟩
  .rw[I] at e1;cases e1;exact⟨none,λC ρ hC hw hs=>G C hC hw (q C ρ hC hs) (q C ρ hC hs),K⟩
 .exact⟨none,λC ρ hC _ hs=>n C ρ hC hs,rfl⟩
variable (uL:0<T)
include uL
end
end Go.Proofs.YthphfjcnkinkpaaGreatDoor.cl.pf
namespace Go.Proofs.YthphfjcnkinkpaaGreatDoor.cl.pf
open Go Go.AM
def wt_sub {T F:Nat} {sb:Int->Int->Prop} {bN:Int->Int} {val:Int->Int->Int} {C:FSt} (hC:Can T F C) (hw:WT sb bN val C) {n:Nat} (hn:n<C.ak.length):WT sb bN val (Da C n):=λi G p z=>by have h:=IW hC.go hn (λ_ _=>rfl);have l:=(AF hC hn).Eo G;have q:=h.2 i l;have D:=(h.2 _ (l.step z)).1;have a:=hw _ (hC.IL ((hC.Eo hn).thru (h.Eo l))) _ (q.2 p z);have e1:oB (Da C n) i=_:=q.1;have B:oB (Da C n) _=_:=D;rw[e1,B];exact a
def at_one {T F:Nat} {C:FSt} (hC:Can T F C) {q:List Int} {s:Nat} (e:oN C q=some s) {x:Int} {n:Nat}:oN C (q++[x])=some n↔(x,n)∈iN C s:=by
 have e:AZ _ 0 q=some s:=e;rw[BF];constructor
 .rintro⟨j,l,z⟩;rw[e] at l;cases l;exact(xM (hC.vP s)).1 z
 .exact λa=>⟨s,e,(xM (hC.vP s)).2 a⟩
section
variable {h:aJ} {T F:Nat} {sb:Int->Int->Prop} {bN:Int->Int} {val:Int->Int->Int} (H:HX h T F sb bN val) (hT:T<=1000) (hF:F<=300) {t:List Template} (hs:UM T F t)
include H hT hF hs
section
variable {C:FSt} (hC:Can T F C) (hw:WT sb bN val C)
include hC hw
theorem Qd {d:bJ} (z:gu Lg d) {g:FSt} (tb:TB h T F sb bN val t d (some g)) (hg:g.ak.length<=4096) {p:List Int} (Q:p.length+14 *iQ d<=900000):(∃ρ,Sat h t sb C ρ d p)↔∃n,oN C p=some n/\M0 sb g C n:=by
 have l:=H.hv.hm.to;have q:∀x∈t,(∀j,wV _)/\JG _:=λx B=>⟨(hs x B).1.vP,YS (hs x B).1 (by have:=(hs x B).2;omega) af⟩
 obtain⟨O,P,I,G⟩:=tb;constructor
 .rintro⟨ρ,a⟩;obtain⟨n,e⟩:=sat_at l hC q d z p af a;have hn:=Xe hC e;obtain⟨N,D⟩:=(Yw l hC e q z af).1 ⟨ρ,a⟩;exact⟨n,e,(Nv l hC hn).2 (G _ _ (AF hC hn) (wt_sub hC hw hn) D)⟩
 .rintro⟨n,e,K⟩;have hn:=Xe hC e;exact(Yw l hC e q z af).2 (I _ (AF hC hn) ((Nv l hC hn).1 K))
theorem M8 {X Y:bJ} {f g:FSt} (V:gu Lg X) (hY:gu Lg Y) (hcX:iQ X<=12) (hcY:iQ Y<=12) (nX:gu (λd=>d.Op≠3) X) (tX:TB h T F sb bN val t X (some f)) (tY:TB h T F sb bN val t Y (some g)) (hf:f.ak.length<=4096) (hg:g.ak.length<=4096)
  {q:List Int} (hq:q.length<=100) {s k:Nat} (e:oN C q=some s) {en:ck}:(∃ρ,El h t sb C ρ [X,Y] q)/\JH h sb C en (e7 h q 2)/\oN C (e7 h q 2)=some k↔IT sb C f g (jk h wL) (jk h en) (eY h je) (eY h pH) s k:=by
 have K:=H.hv.hm.to;have U:e7 h q 2=(q++[eY h pH])++[eY h pH]:=ai;have R:=Qd H hT hF hs hC hw V tX hf (p:=q++[eY h je]) aH;have S:=Qd H hT hF hs hC hw hY tY hg (p:=(q++[eY h pH])++[eY h je]) aH;have ty:∀{s p},p.length<=1000->(JH h _ C s p↔∃n,oN C p=some n/\sb _ _):=λhp=>Ux K hC af
 rw[U];constructor
 .rintro⟨⟨ρ,a⟩,b,c⟩;obtain⟨B,D,G,I,_⟩:=a;obtain⟨s',Q,B⟩:=(ty af).1 B;rw[e] at Q;cases Q;obtain⟨n,en,D⟩:=R.1 ⟨ρ,D⟩;obtain⟨N,l,G⟩:=(ty aH).1 G;obtain⟨O,z,I⟩:=S.1 ⟨ρ,I⟩;obtain⟨k',P,b⟩:=(ty aH).1 b;rw[c] at P;cases P;exact⟨B,⟨n,(at_one hC e).1 en,D⟩,N,(at_one hC e).1 l,G,⟨O,(at_one hC l).1 z,I⟩,(at_one hC l).1 c,b⟩
 .rintro⟨B,⟨n,en,D⟩,N,l,G,⟨O,z,I⟩,c,b⟩;have l:=(at_one hC e).2 l;have c:=(at_one hC l).2 c;obtain⟨ρ1,x1⟩:=R.2 ⟨n,(at_one hC e).2 en,D⟩;obtain⟨ρ,x2⟩:=S.2 ⟨O,(at_one hC l).2 z,I⟩;refine⟨⟨ρ,?_⟩,(ty aH).2 ⟨k,c,b⟩,c⟩;exact⟨(ty af).2 ⟨s,e,B⟩,(sat_rho X nX _).1 x1,(ty aH).2 ⟨N,l,G⟩,x2,trivial⟩
end
omit hs in
theorem GD {x:bJ} {k:FSt} {v:Int} (hb:Dd h T F sb t x k v) (kn:gu (Kn h t) x) {Y:FSt} (N:Can T F Y) (hn:Y.ak.length<=4096) (G:∀C,Can T F C->WT sb bN val C->((∃ρ,Sat h t sb C ρ x [])↔Le sb Y C)):∃z D,f434 h Y=some (z,D)/\(D==(v==0))=true/\(D=true->k=z/\Sm z):=by
 have B:=H.hv.hm.to;obtain⟨y,R,U⟩:=hb.tb H hT hF kn;have hL:RL T F sb Y Y Y:=⟨N,Le.refl B N,Le.refl B N,λC _ h _=>h,λP h _=>h⟩
 have i:=c434 H.hv N af hT af;rcases S8 H.hv hL i with⟨z,e1,I⟩|⟨e1,Q⟩
 .have hz:z.ak.length<=4096:=by
   rcases i with⟨tl,e,S,_⟩|⟨e,_⟩
   .rw[e1] at e;have e:=aP Prod.fst (fe e);have e:z=Bh Y tl:=e;rw[e,vC S.len];exact hn
   .rw[e1] at e;have:=aP Prod.snd (fe e);cases this
  obtain⟨ρ,a⟩:=(G z I.can I.wt).2 I.l;cases y with
  |none=>exact(R z ρ I.can I.wt a).elim
  |some w=>
   obtain⟨l,K,O,V⟩:=R;have e:w=z:=Le.anti B l I.can (V z ρ I.can I.wt a) (I.least w l K ((G w l K).1 (O w l (Le.refl B l))) ((G w l K).1 (O w l (Le.refl B l))));subst e;rcases Uv U with⟨_,_,r⟩|⟨r1,r2,_⟩
   .omega
   .exact⟨w,true,e1,by rw[r2];rfl,λ_=>⟨r1,l.sm af af⟩⟩
 .refine⟨_,false,e1,?_,λq=>(by cases q)⟩;cases y with
  |none=>cases U;rfl
  |some w=>obtain⟨l,K,O,V⟩:=R;have:=(G w l K).1 (O w l (Le.refl B l));exact(Q w l K this this).elim
theorem N8 (uL:0<T) (ht:Hi t t) (l:t.length<=1000) (L:LT h) {X Y:bJ} (Q:gu Lg X) (R:gu Lg Y) (S:gu (Kn h t) X) (U:gu (Kn h t) Y) (V:iQ X<=12) (hcY:iQ Y<=12) {op:Int} (ho:op=6\/op=8):gu (Kn h t) (.mk op [] [] [X,Y])/\∃k v,f500 h t (.mk op [] [] [X,Y])=some (k,v)/\Dd h T F sb t (.mk op [] [] [X,Y]) k v:=by
 obtain⟨d,K⟩:∃d:bJ,d= .mk op [] [] [X,Y]:=⟨_,rfl⟩
 have O:d.Kids=[X,Y]:=by rw[K];rfl
 have B:d.Op=op:=by rw[K];rfl
 have I:d.Path=[]:=by rw[K];rfl
 have kids:∀{P:bJ->Prop},P X->P Y->∀k∈d.Kids,P k:=λ{P} a b k hk=>by grind
 have hkl:d.Kids.length=2:=by rw[O];rfl
 have hdc:dV d.Kids<=24:=by rw[O];simp[dV];omega
 have kn:gu _ d:=⟨d,⟨λe=>by omega,λe=>by omega,λ_=>L,λ_ s hs=>by simp_all⟩,kids S U⟩
 have N:gu _ d:=⟨d,⟨⟨af,af⟩,⟨λe=>by omega,λe=>by omega,λe=>by omega,λe=>by omega⟩,by simp_all,by omega,λ_=>I⟩,kids (Q.imp λd q=>q.fm) (R.imp λd q=>q.fm)⟩
 have z:∀k∈d.Kids,Dc h T F _ t t k:=kids (UP H hT hF l hs X ((Q.and S).imp λd q=>⟨q.1.fm,q.1.kl,q.1.pl,q.2⟩)) (UP H hT hF l hs Y ((R.and U).imp λd q=>⟨q.1.fm,q.1.kl,q.1.pl,q.2⟩));have G:∀x∈d.Kids,([]:List Int).length+14+14 *iQ x<=200:=kids aH aH;have D:iE F []:=λf hf=>by cases hf
 obtain⟨k,v,_,l1,_,l3⟩:=RY H hT hF l hs uL N (λkn=>by
  rcases ho with rfl|rfl
  .exact⟨_,_,by simp;omega,(Yc H hT hF l hs D B L af z ai G).1 _ _ _ (Fy H hF ⟨af,af⟩) aH aH .nil⟩
  .exact⟨_,_,by simp;omega,(Xo H hT hF l hs D B L af z ai G).1 _ _ _ (Fy H hF ⟨af,af⟩) aH aH .nil⟩)
 grind
end
end Go.Proofs.YthphfjcnkinkpaaGreatDoor.cl.pf
namespace Go.Proofs.YthphfjcnkinkpaaGreatDoor.cl.pf
open Go Go.AM
theorem OT {h:aJ} {s l:ck} (h0:0<=eY h s) (hne:s≠l):eY h s≠eY h l:=by
 rcases pg (λx:cO=>x.Name==s) h.bD 0 with⟨e,_⟩|⟨k,x,e,e1,D,_⟩
 .simp_all
 .rcases pg (λx:cO=>x.Name==l) h.bD 0 with⟨q,_⟩|⟨k',G,q,z,B,_⟩
  .simp_all
  grind
section
variable {h:aJ} {t:List Template} {sb:Int->Int->Prop} {C:FSt} {ρ:ck->Nat} {ks:List bJ} {p:List Int}
def sat6:Sat h t sb C ρ (.mk 6 [] [] ks) p↔El h t sb C ρ ks p/\JH h sb C ud (e7 h p ks.length):=by rfl
def sat8:Sat h t sb C ρ (.mk 8 [] [] ks) p↔JH h sb C qT p/\El h t sb C ρ ks (lZ h p)/\JH h sb C uc (e7 h (lZ h p) ks.length)/\EqS (e7 h (lZ h p) ks.length) (p++[eY h rC]) C:=by rfl
def sat5 {l:List ck} {x:bJ}:Sat h t sb C ρ (.mk 5 [] l [x]) p↔Sat h t sb C ρ x (p++l.map (eY h)):=by rw[Sat,az (by decide),az (by decide),az (by decide),az (by decide),wR,wR];simp
end
section
variable {h:aJ} {T F:Nat} {sb:Int->Int->Prop} {bN:Int->Int} {val:Int->Int->Int} (H:HX h T F sb bN val) (hT:T<=1000) (hF:F<=300) (uL:0<T)
include H hT hF uL
theorem ZU {c:Case} (hh:f403 c.Decls=some h) (q:f499=some true):f568 c=some true:=by
 have G:=H.hv.hm.to;have hfl:=H.hv.fl;have RD:=H.tl;obtain⟨t,b,g1,g2⟩:=c498 H hT hF uL c;cases b with
 |false=>exact e568 (by rw[hh,aj,g1,aj,cond_pos (by rfl),q,aj])
 |true=>
 obtain⟨I,R,P⟩:=g2 rfl;have h4:=I.len;obtain⟨b,n1,n2⟩:=c565 c.X R.lt;cases b with
 |true=>exact e568 (by rw[hh,aj,g1,aj,cond_neg (by rfl),n1,aj,au,q,aj])
 |false=>
 have n2:=n2 rfl;obtain⟨b,m1,m2,_⟩:=c516 H hT hF;cases b with
 |false=>exact e568 (by rw[hh,aj,g1,aj,cond_neg (by rfl),n1,aj,cond_neg (by rfl),m1,aj,cond_pos (by rfl),q,aj])
 |true=>
 have L:=m2 rfl;have ht:Hi t t:= .refl I.vP af;have K:=R.cnt;have N:=P.cnt;obtain⟨f,e,_,j1,j2,j3⟩:=yF (u:=t) H hT hF af I.str uL R.lg af;obtain⟨g,u,_,k1,k2,k3⟩:=yF (u:=t) H hT hF af I.str uL P.lg af;have pre:∀{r},(bif(e !=0) then(Option.bind (f499 ) λy219=>some y219) else(bif(u !=0) then(Option.bind (f499 ) λy221=>some y221) else(bif(decide ((wrap .i64 ((wrap .i64 ((List.length f.ak:Int)+(List.length g.ak:Int)))+4))>4096)) then(Option.bind (f499 ) λy223=>some y223) else(Option.bind (Xt h [f,g]) λy225=>Option.bind (f570 h [f,g]) λaeG=>sN t 0 c h g y225.1 aeG.1))))=some r->f568 c=some r:=λ{r} hr=>by refine e568 ?_;rw[hh,aj,g1,aj,cond_neg (by rfl),n1,aj,cond_neg (by rfl),m1,aj,cond_neg (by rfl),j1 ht,aj,k1 ht,aj];exact hr
 refine pre ?_;by_cases q1:e=0
 rotate_left
 .rw[cond_pos (by simpa using q1),q,aj]
 by_cases q2:u=0
 rotate_left
 .rw[cond_neg (by simp[q1]),cond_pos (by simpa using q2),q,aj]
 rw[cond_neg (by simp[q1]),cond_neg (by simp[q2])];subst q1;subst q2;have ok:∀{d:bJ} {f:FSt},Dd h T F sb t d f 0->gu (Kn h t) d/\TB h T F sb bN val t d (some f)/\Can T F f/\f.ak.length<=4096:=λ{d f} hb=>by have kn:=hb.kn rfl;obtain⟨y,t1,t2⟩:=hb.tb H hT hF kn;cases y with
  |none=>cases t2
  |some w=>
   rcases Uv t2 with⟨_,r,_⟩|⟨r1,_,r2⟩
   .cases r
   .subst r1;exact⟨kn,t1,t1.1,r2⟩
 obtain⟨kX,tX,fc,f4⟩:=ok j3;obtain⟨kY,tY,U,g4⟩:=ok k3;rw[gi (n:=(f.ak.length:Int)+(g.ak.length:Int)) af af,gi af af];by_cases hn:f.ak.length+g.ak.length+4<=4096
 rotate_left
 .rw[cond_pos (by rw[bA];omega),q,aj]
 rw[cond_neg (by rw[aS];omega)];have tl:∀{s},0<=jk h s->0<=jk h s/\jk h s<(T:Int):=λ{s} h0=>by
  have:jk h s<(h.Types.length:Int):=(Jg _ _).1
  exact⟨h0,af⟩
 have O:∀{s},0<=eY h s->0<=eY h s/\eY h s<(F:Int):=λh0=>Af H hF h0
 obtain⟨A,a1,a2,a3,a4⟩:=c529a fc U af hn L.w (tl L.co) (O L.fi) (O L.re) (OT L.fi (by decide)) (tl L.nu);obtain⟨B,b1,b2,b3,b4⟩:=c570 fc U af hn L.w (tl L.co) (O L.fi) (O L.re) (OT L.fi (by decide)) (tl L.li) (tl L.dl) (O L.he) (O L.la) (OT L.he (by decide));rw[a1,aj,b1,aj];have D:∀C:FSt,oN C []=some 0:=λ_=>rfl
 obtain⟨kn6,k6,v6,r6,s6⟩:=N8 H hT hF I.str uL ht af L R.lg P.lg kX kY K N (op:=6) (.inl rfl);obtain⟨z6,i6,p6,o6,w6⟩:=GD H hT hF s6 kn6 a2 a3 λC hC hw=>by
  have V:=λk=>M8 H hT hF I.str hC hw R.lg P.lg K N n2 tX tY f4 g4 (q:=[]) ai (s:=0) (k:=k) (D C) (en:=ud)
  rw[a4 sb C G];constructor
  .rintro⟨ρ,a⟩;have a:=sat6.1 a;obtain⟨k,ek,_⟩:=(Ux G hC ai).1 a.2;exact⟨k,(V k).1 ⟨⟨ρ,a.1⟩,a.2,ek⟩⟩
  .rintro⟨k,a⟩;obtain⟨⟨ρ,x⟩,y,_⟩:=(V k).2 a;exact⟨ρ,sat6.2 ⟨x,y⟩⟩
 obtain⟨kn8,k8,v8,r8,s8⟩:=N8 H hT hF I.str uL ht af L R.lg P.lg kX kY K N (op:=8) (.inr rfl);obtain⟨z8,i8,p8,o8,w8⟩:=GD H hT hF s8 kn8 b2 b3 λC hC hw=>by
  have V:=λn k (en:oN C [eY h rB]=some n)=>M8 H hT hF I.str hC hw R.lg P.lg K N n2 tX tY f4 g4 (q:=[eY h rB]) ai (s:=n) (k:=k) en (en:=uc)
  have one:∀{x n},oN C [x]=some n↔(x,n)∈iN C 0:=λ{x n}=>at_one hC (D C)
  rw[b4 sb C G];constructor
  .rintro⟨ρ,a⟩;obtain⟨x1,x2,x3,k,x4,x5⟩:=sat8.1 a;obtain⟨s0,es,x1⟩:=(Ux G hC ai).1 x1;rw[D C] at es;cases es;obtain⟨n,en⟩:=UY ⟨k,x4⟩;exact⟨x1,n,k,one.1 en,one.1 x5,(V n k en).1 ⟨⟨ρ,x2⟩,x3,x4⟩⟩
  .rintro⟨x1,n,k,en,ek,a⟩;obtain⟨⟨ρ,x2⟩,x3,x4⟩:=(V n k (one.2 en)).2 a;exact⟨ρ,sat8.2 ⟨(Ux G hC ai).2 ⟨0,rfl,x1⟩,x2,x3,k,x4,one.2 ek⟩⟩
 have hc5:iQ (.mk 5 [] [rB,je] [c.Y])=1+iQ c.Y:=by rw[DU];simp[dV,bJ.Kids]
 have hy:=P.lg;have S:∀{n:Int},n≠5->(bJ.mk 5 [] [rB,je] [c.Y]).Op≠n:=λh e=>h (show(5:Int)=_ from e).symm
 have lg5:gu Lg (.mk 5 [] [rB,je] [c.Y]):=⟨_,⟨⟨⟨show(1:Int)<=5 by decide,show(5:Int)<=8 by decide⟩,⟨λe=>e.elim (λe=>absurd e (S (by decide))) λe=>e.elim (λe=>absurd e (S (by decide))) λe=>absurd e (S (by decide)),λ_=>rfl,λe=>absurd e (S (by decide)),λe=>absurd e (S (by decide))⟩,show 2<=64 by decide,show 1<=256 by decide,λe=>absurd rfl e⟩,show 1<=12 by decide,show 2<=4 by decide⟩,λk hk=>(by rw[cz.1 hk];exact hy)⟩
 have kn5:gu (Kn h t) (.mk 5 [] [rB,je] [c.Y]):=⟨_,⟨λe=>absurd e (S (by decide)),λe=>absurd e (S (by decide)),λ_=>L,λ_ s hs=>(by
  rcases aN.1 hs with rfl|hs
  .exact L.he
  .rw[cz.1 hs];exact L.fi)⟩,λk hk=>(by rw[cz.1 hk];exact kY)⟩
 obtain⟨k5,v5,_,r5,_,s5⟩:=yF (u:=t) H hT hF af I.str uL lg5 af;have pok:iE F [eY h rB,eY h je]:=λx hx=>by
  rcases aN.1 hx with rfl|hx
  .exact O L.he
  .rw[cz.1 hx];exact O L.fi
 have gt:=YS U af af;obtain⟨z5,i5,p5,o5,w5⟩:=GD H hT hF s5 kn5 (Rr uL ai pok U gt) (by rw[C0];simp;omega) λC hC hw=>by rw[Md G ai (λj=>U.vP j) gt hC,<-Qd H hT hF I.str hC hw P.lg tY g4 aH];exact exists_congr λρ=>sat5
 have Q:∀{k z:FSt} {v:Int} {l:Bool} {nx:Option Bool},(l==(v==0))=true->(l=true->k=z/\Sm z)->nx=some true->(bif(!(l==(v==0))) then some false else(bif l then(Option.bind (f407 k z) λy=>bif(!y) then some false else nx) else nx))=some true:=λ{k z v l nx} h1 h2 h3=>by rw[h1,cond_neg (by rfl)];cases l with
  |false=>rw[aA];exact h3
  |true=>obtain⟨rfl,hs⟩:=h2 rfl;rw[au,c407_eq hs,aj,cond_neg (by rfl)];exact h3
 refine Ja ?_;rw[cond_pos (by rfl),cond_neg (by rfl),cond_neg (by rfl),r6,aj,p6,aj];refine Q o6 w6 ?_;refine Ja ?_;rw[cond_pos (by rfl),cond_pos (by rfl),cond_neg (by rfl),r8,aj,p8,aj];refine Q o8 w8 ?_;have u1:f572 h rB=some (eY h rB):=e572 (by rw[xZ _ _ af,aj]);have u2:f572 h je=some (eY h je):=e572 (by rw[xZ _ _ af,aj]);refine Ja ?_;rw[cond_pos (by rfl),cond_neg (by rfl),cond_pos (by rfl),u1,aj,u2,aj,c430g ai af (λx hx=>by have:=(U.ao hx).len;omega),aj,r5 ht,aj,p5,aj];refine Q o5 w5 ?_;exact Ja (by rw[cond_neg (by rfl),q,aj])
end
end Go.Proofs.YthphfjcnkinkpaaGreatDoor.cl.pf
namespace Go.Proofs.YthphfjcnkinkpaaGreatDoor.cl.pf
open Go Go.AM
def law568 {c:Case} (z:Sz c.Decls) (hf:Fz c.Decls) (q:f499=some true):f568 c=some true:=by obtain⟨h,t,B,l⟩:=c403 z hf;have:=l.F;exact ZU l.hx l.T af l.P B q
