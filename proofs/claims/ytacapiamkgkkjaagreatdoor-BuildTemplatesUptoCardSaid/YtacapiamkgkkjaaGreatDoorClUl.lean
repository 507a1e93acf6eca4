/- Templates. -/
import Derived.Test.YtacapiamkgkkjaaGreatDoorClTa
import Derived.Test.YtacapiamkgkkjaaGreatDoorClPd
import Derived.Test.YtacapiamkgkkjaaGreatDoorClSg
set_option linter.all false
open Go.IntKind (wrap)
namespace Go.Proofs.YtacapiamkgkkjaaGreatDoor.cl.pf
open Go Go.AM
def UO:∀l:List bV,strs (l.map jL)=some l
 |[]=>rfl
 |x::l=>by rw[bM];show(strs (l.map jL)).map (x:: ·)=_;rw[UO l];rfl
def c80 {l:List bV} (hl:l.length<=1000000):f80 l=some ((),oM Op.bytesLess l):=by refine pX (E:=E80r) ?_;refine lS ?_;have q:Nat.ble l.length 1073741824=true:=og af;show(match strs (l.map jL) with|some l=>_|none=>_)=_;rw[UO];show(bif Nat.ble l.length 1073741824 then _ else _)=_;rw[q];rfl
def h577 {d:bQ} (hl:d.Kids.length<=256) (L:∀k∈d.Kids,∀a b:List (List UInt8),a.length+qW k<=1000000->b.length+qW k<=1000000->∃w q,f577 k a b=some ((),w,q)/\w.length<=a.length+qW k/\q.length<=b.length+qW k/\∀P,(∀s∈q,P s)↔Nmd P k/\∀s∈b,P s):
  ∀(xs:List bQ) (i:Nat) (a b:List (List UInt8)),d.Kids.drop i=xs->a.length+gx xs<=1000000->b.length+gx xs<=1000000->∃w q,Ht d.Kids d.Kids.length i d a b=some ((),w,q)/\w.length<=a.length+gx xs/\q.length<=b.length+gx xs/\∀P,(∀s∈q,P s)↔(∀k∈xs,Nmd P k)/\∀s∈b,P s:=by
 intro xs;induction xs with
 |nil=>intro i a b hd _ _;exact⟨a,b,aek (by rw[bg hd,au]),by omega,by omega,λP=>by simp⟩
 |cons x xs N=>
  intro i a b hd S U;have V:gx (x::xs)=qW x+gx xs:=by rw[gx]
  obtain⟨z,D,e1,Q,R,K⟩:=L x (aP (bU hd)) a b af af;obtain⟨B,G,I,j1,j2,O⟩:=N (i+1) z D (aI hd) af af;refine⟨B,G,aek (by rw[aR hd,aj,aK hd,e1,bq,aN hd af];exact I),by omega,by omega,λP=> ?_⟩;rw[O,K,List.forall_mem_cons];exact⟨λ⟨a,b,c⟩=>⟨⟨b,a⟩,c⟩,λ⟨⟨b,a⟩,c⟩=>⟨a,b,c⟩⟩
def c577 (d:bQ):kN Fm d->∀a b:List (List UInt8),a.length+qW d<=1000000->b.length+qW d<=1000000->∃w q,f577 d a b=some ((),w,q)/\w.length<=a.length+qW d/\q.length<=b.length+qW d/\∀P,(∀s∈q,P s)↔Nmd P d/\∀s∈b,P s:=by induction d using oK with
 |h d R=>
  intro Q a b S U;have hl:=Q.here.kl;have D:=λk D=>R k D (Q.kids k D)
  have V:=DS d;have O:∀P,Nmd P d↔(d.Op=2->P d.Name)/\∀k∈d.Kids,Nmd P k:=λP=>kN.iff
  by_cases N:d.Op=1
  .obtain⟨w,q,e,K,L,G⟩:=h577 hl D d.Kids 0 (a++[d.Name]) b rfl (by rw[bR,dY];omega) af;rw[bR,dY] at K;refine⟨w,q,e577 (by rw[cond_pos (by simpa using N),dG ⟨by simp only[dY];omega,by simp only[dY];omega⟩];exact e),by omega,by omega,λP=> ?_⟩;rw[G,O];exact⟨λ⟨x,y⟩=>⟨⟨λh=>by omega,x⟩,y⟩,λ⟨⟨_,x⟩,y⟩=>⟨x,y⟩⟩
  .by_cases I:d.Op=2
   .obtain⟨w,q,e,K,L,G⟩:=h577 hl D d.Kids 0 a (b++[d.Name]) rfl af (by rw[bR,dY];omega);rw[bR,dY] at L;refine⟨w,q,e577 (by rw[cond_neg (by simpa using N),cond_pos (by simpa using I),dG ⟨by simp only[dY];omega,by simp only[dY];omega⟩];exact e),by omega,by omega,λP=> ?_⟩;rw[G,O];refine⟨λ⟨x,y⟩=>⟨⟨λ_=>y _ ai,x⟩,λs B=>y s (by simp[B])⟩,λ⟨⟨z,x⟩,y⟩=>⟨x,λs B=> ?_⟩⟩;rcases bf.1 B with B|B
    .exact y s B
    .rw[bZ.1 B];exact z I
   .obtain⟨w,q,e,K,L,G⟩:=h577 hl D d.Kids 0 a b rfl af af;refine⟨w,q,e577 (by rw[cond_neg (by simpa using N),cond_neg (by simpa using I)];exact e),by omega,by omega,λP=> ?_⟩;rw[G,O];exact⟨λ⟨x,y⟩=>⟨⟨λh=>(I h).elim,x⟩,y⟩,λ⟨⟨_,x⟩,y⟩=>⟨x,y⟩⟩
def c574 {d:bQ} (hd:LD d):∃a b,f574 d=some (a,b)/\b.length<=12/\∀P,(∀s∈b,P s)↔Nmd P d:=by
 have U:=hd.cnt;obtain⟨a,b,e,D,G,I⟩:=c577 d hd.fm [] [] aH aH;rw[fK] at D G;obtain⟨z,K,N,O,V,x4⟩:=c124 (l:=oM Op.bytesLess a) (by rw[Ae];omega);obtain⟨B,L,Q,R,S,w⟩:=c124 (l:=oM Op.bytesLess b) (by rw[Ae];omega);refine⟨K.take z,L.take B,e574 ?_,?_,λP=> ?_⟩
 .rw[e,bq];refine k574_6 ?_;rw[c80 af,gw,N,gw,dG O];refine k574_6a ?_;rw[c80 af,gw,Q,gw,dG R];exact k574_6b rfl
 .rw[dL,S,Ae];omega
 .have:=I P;simp only[mG,false_implies,implies_true,eN] at this;rw[<-this];exact⟨λh s q=>h s ((w s).2 (NZ.2 q)),λh s q=>h s (NZ.1 ((w s).1 q))⟩
def h571 {x:Def} (B:JX x):∀(xs:List bQ) (i:Nat) (w:List bV),x.c8.drop i=xs->w.length+12 *xs.length<=1000->∃q,RO x.c8 x.c8.length i x w=some q/\q.length<=w.length+12 *xs.length/\∀P,(∀s∈q,P s)↔(∀y∈xs,Nmd P y)/\∀s∈w,P s:=by have L:=B.dl;intro xs;induction xs with
 |nil=>intro i w hd z;exact⟨w,aeg (by rw[bg hd,au]),by omega,λP=>by simp⟩
 |cons y xs N=>intro i w hd z;rw[bA] at z;obtain⟨a,b,e,O,K⟩:=c574 (B.df y (aP (bU hd)));obtain⟨q,D,G,I⟩:=N (i+1) (w++b) (aI hd) (by rw[bR];omega);rw[bR] at G;refine⟨q,aeg (by rw[aR hd,aj,aK hd,e,gw,dG ⟨af,af⟩,aN hd af];exact D),by rw[bA];omega,λP=> ?_⟩;rw[I,List.forall_mem_cons,List.forall_mem_append,K];exact⟨λ⟨a,c,b⟩=>⟨⟨b,a⟩,c⟩,λ⟨⟨b,a⟩,c⟩=>⟨a,c,b⟩⟩
def c571 {x:Def} (q:JX x):∃w,f571 x=some w/\w.length<=48/\∀P:bV->Prop,(∀s∈w,P s)↔∀s∈nd x,P s:=by have G:=q.dl;obtain⟨a,b,e,K,D⟩:=c574 q.st;obtain⟨w,z,I,B⟩:=h571 q x.c8 0 b rfl af;refine⟨w,e571 (by rw[e,gw];exact z),by omega,λP=> ?_⟩;rw[B,D];unfold nd;rw[Ub,Qc];simp
end Go.Proofs.YtacapiamkgkkjaaGreatDoor.cl.pf
namespace Go.Proofs.YtacapiamkgkkjaaGreatDoor.cl.pf
open Go Go.AM
def out (q:List bV) (s:bV):Bool:= !(q.any λn=>n==s)
def Jt {q:List bV} {s:bV}:out q s=true↔s∉q:=by unfold out;rw[gE,mD];exact⟨λh z=>h s z ai,λh n w e=>h (by rw[<-show n=s by simpa using e];exact w)⟩
def TX (q:List bV) (s:bV):tD (p6 q) s (λy=>some (!y)) (some true)=some (out q s):=by
 by_cases h:s∈q
 .rw[tO (show getM (p6 q) s=some true by rw[Ad,aC h])];cases e:out q s with
  |false=>rfl
  |true=>exact(Jt.1 e h).elim
 .rw[tN (by rw[Ad,aA h]),Jt.2 h]
def h126b (q l:List bV) (hl:l.length<=1073741824):∀(xs:List bV) (i:Nat),l.drop i=xs->JA l l.length i (p6 q)=some (qH (out q) xs i):=by intro xs;induction xs with
 |nil=>intro i hd;refine Yi ?_;rw[bg hd,au];rfl
 |cons x xs w=>intro i hd;refine Yi ?_;rw[aR hd,aj,aK hd,e579 (TX q x),ak,aN hd hl,w (i+1) (aI hd),nQ];cases(out q x)<;>rfl
def h126c (q l:List bV) (hl:l.length<=1073741824):∀(xs:List bV) (i:Nat),l.drop i=xs->JB l l.length i (p6 q)=some (qH (out q) xs i):=by intro xs;induction xs with
 |nil=>intro i hd;refine Yj ?_;rw[bg hd,au];rfl
 |cons x xs w=>intro i hd;refine Yj ?_;rw[aR hd,aj,aK hd,e584 (TX q x),ak,aN hd hl,w (i+1) (aI hd),nQ];cases(out q x)<;>rfl
def Jv {z w:List bV}:Bb z w=true↔∀s∈w,s∈z:=by unfold Bb;rw[cv];refine⟨λh s q=> ?_,λh s q=>lD.2 ⟨s,h s q,ai⟩⟩;obtain⟨n,B,e⟩:=lD.1 (h s q);rw[<-show n=s by simpa using e];exact B
def XF {q w:List bV} {v:List bV} (h:∀P:bV->Prop,(∀s∈w,P s)↔∀s∈v,P s):w.any (out q)= !(Bb q v):=by have:=h (· ∈q);cases e:Bb q v with
 |true=>rw[dr,mD];exact λs z D=>Jt.1 D (this.2 (Jv.1 e) s z)
 |false=>rw[fE];cases B:w.any (out q) with
  |true=>rfl
  |false=>
   rw[mD] at B
   have:=Jv.2 (this.1 λs z=>by
    by_cases h:s∈q
    .exact h
    .exact(B s z (Jt.2 h)).elim)
   rw[e] at this;cases this
def c93a {x:Def} (D:JX x) (q:List bV):∃w,f571 x=some w/\f93a w (p6 q)=some (!(Bb q (nd x))):=by obtain⟨w,z,G,B⟩:=c571 D;exact⟨w,z,e93a (by rw[e126b (h126b q w af w 0 rfl),ak,Qk,XF B])⟩
def c580 {x:Def} (D:JX x) (q:List bV):f580 x (p6 q)=some (Bb q (nd x)):=by obtain⟨w,z,G,B⟩:=c571 D;refine e580 ?_;rw[z,ak,e93b (by rw[e126c (h126c q w af w 0 rfl),ak,Qk,XF B]),ak,Bool.not_not]
def h575 {l:List Def} (hl:l.length<=1000) (hd:∀x∈l,JX x) (q:List bV):∀(xs:List Def) (i:Nat),l.drop i=xs->RP l.length i l (p6 q)=some (qH (λx=>Bb q (nd x)) xs i):=by intro xs;induction xs with
 |nil=>intro i h;refine aej ?_;rw[bg h,au];rfl
 |cons x xs w=>intro i h;refine aej ?_;rw[aR h,aj,jQ h,jP h,c580 (hd x (aP (bU h))),ak,aN h af,w (i+1) (aI h),nQ];cases Bb q (nd x)<;>rfl
def c575 {l:List Def} (hl:l.length<=1000) (hd:∀x∈l,JX x) (ns:List bV):f575 l (p6 ns)=some (qH (λx=>Bb ns (nd x)) l 0):=
 e575 (h575 hl hd ns l 0 rfl)
end Go.Proofs.YtacapiamkgkkjaaGreatDoor.cl.pf
namespace Go.Proofs.YtacapiamkgkkjaaGreatDoor.cl.pf
open Go Go.AM
def c558 (a b:bV):f558 a b=some (Ks a b):=by refine pX ?_;refine lS ?_;rfl
def c556 (x:Template) (s:bV):f556 x s=some (Ks x.Name s):=e556 (by rw[c558,ak])
end Go.Proofs.YtacapiamkgkkjaaGreatDoor.cl.pf
namespace Go.Proofs.YtacapiamkgkkjaaGreatDoor.cl.pf
open Go Go.AM
def halfI {i j:Nat} (h:i+j<=2097152):wrap .i64 (Int.fdiv (wrap .u64 (wrap .i64 ((i:Int)+(j:Int)))) (2^ min (Int.toNat 1) (IntKind.bits .u64)))=(((i+j) / 2:Nat):Int):=by
 have e1:wrap .i64 ((i:Int)+(j:Int))=((i+j:Nat):Int):=by rw[oW af af];omega
 have q:wrap .u64 ((i+j:Nat):Int)=((i+j:Nat):Int):=xZ af;have w:(2^ min (Int.toNat 1) (IntKind.bits .u64):Int)=2:=by rfl
 rw[e1,q,w,Int.fdiv_eq_ediv_of_nonneg _ af];rw[oW af af];omega
def O4 (a b:bV):decide (Ks a b<0)=Op.bytesLess a b:=by unfold Ks;cases Op.bytesLess a b with
 |true=>rfl
 |false=>cases a==b<;>rfl
def cmpS_eq {a b:bV} (h:Op.bytesLess a b=false):(Ks a b==0)=(a==b):=by unfold Ks;rw[h];cases a==b<;>rfl
def CW (t:List Template):Prop:=t.Pairwise λa b=>Op.bytesLess a.Name b.Name=true
def CW.lt {t:List Template} (h:CW t) {i j:Nat} {x y:Template} (B:t[i]? =some x) (D:t[j]? =some y) (q:i<j):Op.bytesLess x.Name y.Name=true:=by obtain⟨w,rfl⟩:=bu.1 B;obtain⟨z,rfl⟩:=bu.1 D;exact js.1 h i j w z q
def h540 {t:List Template} (L:CW t) (hl:t.length<=1000) (s:bV):∀(n i j:Nat),j-i=n->i<=j->j<=t.length->(∀k x,k<i->t[k]? =some x->Op.bytesLess x.Name s=true)->(∀k x,j<=k->t[k]? =some x->Op.bytesLess x.Name s=false)->
  ∃(k:Nat) (b:Bool),Mx t s t.length i j=some ((k:Int),b)/\(b=true->∃x,t[k]? =some x/\x.Name=s)/\(b=false->∀x∈t,x.Name≠s)/\k<=t.length/\(∀j x,j<k->t[j]? =some x->Op.bytesLess x.Name s=true)/\(∀j x,k<=j->t[j]? =some x->Op.bytesLess x.Name s=false):=by
 intro n;induction n using Nat.strongRecOn with
 |_ n Q=>
  intro i j V S O w q;by_cases U:i<j
  .have N:(i+j) / 2<t.length:=af;have B:=aM N;cases e:Op.bytesLess t[(i+j) / 2].Name s with
   |true=>
    obtain⟨k,b,I,K⟩:=Q (j-((i+j) / 2+1)) af ((i+j) / 2+1) j rfl af O (λk x D z=>by
     by_cases h:k=(i+j) / 2
     .subst h;rw[B] at z;cases z;exact e
     .exact ri _ _ _ (L.lt z B af) e) q
    refine⟨k,b,PR ?_,K⟩;rw[cond_pos (by rw[bN];omega),b9 (by decide),halfI af,cR N,c556,ak,O4,e,aj,bJ af];exact I
   |false=>
    obtain⟨k,b,I,K⟩:=Q ((i+j) / 2-i) af i ((i+j) / 2) rfl af af w (λk x D z=>by
     by_cases h:k=(i+j) / 2
     .subst h;rw[B] at z;cases z;exact e
     .cases R:Op.bytesLess x.Name s with
      |false=>rfl
      |true=>rw[ri _ _ _ (L.lt B z af) R] at e;cases e)
    refine⟨k,b,PR ?_,K⟩;rw[cond_pos (by rw[bN];omega),b9 (by decide),halfI af,cR N,c556,ak,O4,e,au];exact I
  .have e:i=j:=af;subst e;by_cases P:i<t.length
   .have B:=aM P;refine⟨i,t[i].Name==s,PR ?_,λG=>⟨_,B,by simpa using G⟩,λG x z e=> ?_,O,w,q⟩
    .rw[cond_neg (by rw[bB];omega),cond_pos (by rw[bN];omega),cR P,c556,ak,cmpS_eq (q i _ (aQ _) B)]
    .obtain⟨k,D⟩:=gu.1 z;rcases sG k i with h|h|h
     .exact By (w k x h D) e
     .subst h;rw[B] at D;cases D;simp[e] at G
     .have:=L.lt B D h;rw[e,q i _ (aQ _) B] at this;cases this
   .refine⟨i,false,PR ?_,λG=>(by cases G),λ_ x z e=> ?_,O,w,q⟩
    .rw[cond_neg (by rw[bB];omega),cond_neg (by rw[bB];omega)]
    .obtain⟨k,D⟩:=gu.1 z;exact By (w k x (by have:=(bu.1 D).1;omega) D) e
abbrev tpos (t:List Template) (s:bV):Int:=qH (λx=>x.Name==s) t 0
def tfind {t:List Template} (D:CW t) (hl:t.length<=1000) (s:bV):∃(k:Nat) (b:Bool),(∀L K A G,HW s L K t A G=some (((k:Int),b),A,G))/\
  ((b=true/\tpos t s=k/\∃x,t[k]? =some x/\x.Name=s)\/(b=false/\tpos t s= -1)):=by
 obtain⟨k,b,P,N,Q,_⟩:=h540 D hl s t.length 0 t.length af af (aQ _) (λk x O=>absurd O af) (λk x O R=>by have:=(bu.1 R).1;omega);refine⟨k,b,λL K A G=>e528a (by rw[e540 P,ak]),?_⟩;rcases oA (λx:Template=>x.Name==s) t 0 with⟨I,z⟩|⟨j,x,I,z,B,S⟩
 .cases b with
  |true=>obtain⟨x,q,w⟩:=N rfl;have:=z x (aP q);simp[w] at this
  |false=>exact .inr ⟨rfl,I⟩
 .have B:x.Name=s:=by simpa using B
  cases b with
  |false=>exact(Q rfl x (aP z) B).elim
  |true=>
   obtain⟨y,q,w⟩:=N rfl;refine .inl ⟨rfl,?_,y,q,w⟩
   have:j=k:=by
    rcases sG j k with h|h|h
    .exact(By (D.lt z q h) (by rw[B,w])).elim
    .exact h
    .exact(By (D.lt q z h) (by rw[B,w])).elim
   exact I.trans (by rw[this,eY])
def tplace {t:List Template} (I:CW t) (hl:t.length<=1000) (s:bV):∃(k:Nat) (b:Bool),(∀z w A q,HW s z w t A q=some (((k:Int),b),A,q))/\k<=t.length/\(∀j x,j<k->t[j]? =some x->Op.bytesLess x.Name s=true)/\(∀j x,k<=j->t[j]? =some x->Op.bytesLess x.Name s=false):=by
 obtain⟨k,b,D,_,_,G⟩:=h540 I hl s t.length 0 t.length af af (aQ _) (λk x B=>absurd B af) (λk x B K=>by have:=(bu.1 K).1;omega);exact⟨k,b,λz w A q=>e528a (by rw[e540 D,ak]),G⟩
structure I1 (t u:List Template):Prop where
 zW:CW u
 len:u.length<=1000
 same:∀s,(tpos t s= -1/\tpos u s= -1)\/∃(i j:Nat) (x:Template),tpos t s=i/\t[i]? =some x/\tpos u s=j/\u[j]? =some x
theorem I1.find {t u:List Template} (h:I1 t u) (s:bV):∃(k:Nat) (b:Bool),(∀G D A z,HW s G D u A z=some (((k:Int),b),A,z))/\
  ((b=true/\∃(i:Nat) (x:Template),tpos t s=i/\t[i]? =some x/\u[k]? =some x)\/(b=false/\tpos t s= -1)):=by
 obtain⟨k,b,I,K⟩:=tfind h.zW h.len s;refine⟨k,b,I,?_⟩;rcases h.same s with⟨q,B⟩|⟨i,j,x,q,B,O,L⟩<;>rcases K with⟨w,N,_⟩|⟨w,N⟩
 .omega
 .exact .inr ⟨w,q⟩
 .have:j=k:=af
  exact .inl ⟨w,i,x,q,B,this▸L⟩
 .omega
abbrev oE (h:aV) (s:bV):Int:=qH (λx=>x.Name==s) h.Types 0
abbrev jR (h:aV) (s:bV):Int:=qH (λx=>x.Name==s) h.bG 0
def Ql {w:Type} (p:w->Bool) (l:List w):qH p l 0<(l.length:Int)/\-1<=qH p l 0:=by
 rcases oA p l 0 with⟨q,_⟩|⟨j,x,q,z,_⟩
 .rw[q];omega
 .have:=(bu.1 z).1;rw[q];omega
def h521 {q:Int}:∀(n:Nat) (p:List Int),p.length+n<=100000->RE q (n:Int) p=some (p++List.replicate n q):=by intro n;induction n with
 |zero=>intro p _;refine ad6 ?_;rw[cond_neg (by rfl)];simp
 |succ n w=>intro p z;refine ad6 ?_;rw[cond_pos (by rw[bN];omega),cF _ af ai af,qO af,w _ aH,dz,List.singleton_append,<-uk]
def OU {q:Int} {n:Nat} {p:List Int} (w:p.length+n<=100000):f521 p q (n:Int)=some (p++List.replicate n q):=by refine e521 ?_;rw[cF _ ai af af,dU];exact h521 n p w
def h534 {h:aV} (hl:h.bG.length<=1000) {t:List Template} {A:List Node} {z:List (bV×List Int)} {q:List bV} (D:q.length<=1000):∀(xs:List bV) (i:Nat) (p:List Int),q.drop i=xs->p.length+xs.length<=100000->
  JN q q.length i p h.Types h.bG t A z=some (p++xs.map (jR h),A,z):=by
 intro xs;induction xs with
 |nil=>intro i p hd w;refine YH ?_;rw[bg hd,au];simp
 |cons x xs B=>intro i p hd w;simp only[bA] at w;refine YH ?_;rw[aR hd,aj,aK hd,show aV.mk h.Types h.bG=h from rfl,c363 _ _ af,ak,cF _ af ai af,aN hd af,B (i+1) _ (aI hd) aH];simp
def abR {h:aV} (hl:h.bG.length<=1000) {t:List Template} {A:List Node} {w:List (bV×List Int)} {q:List bV} (z:q.length<=1000) {p:List Int} (B:p.length<=1000):BJ p q h.Types h.bG t A w=some (p++q.map (jR h),A,w):=by refine e534a ?_;rw[c460 af,ak];exact h534 hl z q 0 p rfl af
end Go.Proofs.YtacapiamkgkkjaaGreatDoor.cl.pf
namespace Go.Proofs.YtacapiamkgkkjaaGreatDoor.cl.pf
open Go Go.AM
def GG:List Def->Def->List Def->List Def
 |[],x,q=>x::q
 |y::p,x,q=>bif Op.bytesLess x.Name y.Name then GG p x (y::q) else(y::p).reverse++x::q
def GH:∀(p:List Def) (x:Def) (q:List Def),(GG p x q).Perm (p.reverse++x::q)
 |[],x,q=> .refl _
 |y::p,x,q=>by unfold GG;cases Op.bytesLess x.Name y.Name with
  |false=>rw[au]
  |true=>rw[aj,List.reverse_cons,dz];exact(GH p x (y::q)).trans (List.Perm.append_left _ (List.Perm.swap y x q))
abbrev Wk (l:List Def):Prop:=l.Pairwise λa b=>Op.bytesLess b.Name a.Name=false
def c581 (a b:Def):f581 a b=some (Ks a.Name b.Name):=e581 (by rw[c558,ak])
def h573_4 {b:Int} {i:Nat} {r:Unit×List Def}:∀(p:List Def) (x:Def) (q:List Def),p.length+q.length<=1000->Ej 0 b (wrap .i64 ((i:Int)+1)) (GG p x q)=some r->My 0 b i p.length (p.reverse++x::q)=some r:=by intro p;induction p with
 |nil=>intro x q _ h;rw[GG] at h;show My 0 b i ((0:Nat):Int) (x::q)=some r;refine aei ?_;rw[cond_neg (by rfl)];exact h
 |cons y p I=>
  intro x q hl h;simp only[bA] at hl;have N:wrap .i64 (((p.length+1:Nat):Int)-1)=(p.length:Int):=by rw[CT af af];omega
  have z:(y::p).reverse++x::q=p.reverse++y::x::q:=by rw[List.reverse_cons,dz];rfl
  have D:(p.reverse++y::x::q).length=p.length+(q.length+2):=ai;have w:(p.reverse++y::x::q)[p.length+1]? =some x:=by rw[e7 ai];simp
  have B:(p.reverse++y::x::q)[p.length]? =some y:=by rw[e7 ai];simp
  have K:(p.reverse++y::x::q).set (p.length+1) y=p.reverse++y::y::q:=by rw[mC _ _ ai];simp
  have L:(p.reverse++y::y::q).set p.length x=p.reverse++x::y::q:=by rw[mC _ _ ai];simp
  have G:(p.reverse++y::y::q)[p.length]? =some y:=by rw[e7 ai];simp
  have O:(p.reverse++y::y::q).length=p.length+(q.length+2):=ai;rw[z];refine aei ?_;rw[bA,cond_pos (by rw[bN];omega),dG af,aS,iE w,N,dG af,aS,iE B,c581,ak,O4];unfold GG at h;cases e:Op.bytesLess x.Name y.Name with
  |false=>rw[e,au,z] at h;rw[au];exact h
  |true=>rw[e,aj] at h;rw[aj,dG af,iE B,dG af,iE w,dG af,iE w,K,dG af,iE G,L];exact I x (y::q) aH h
def Ty:∀(p:List Def) (x:Def) (q r:List Def),GG p x (q++r)=GG p x q++r
 |[],x,q,r=>rfl
 |y::p,x,q,r=>by unfold GG;cases Op.bytesLess x.Name y.Name with
  |false=>simp only[au,dz,gB]
  |true=>rw[aj,aj,<-gB,Ty p]
def wk_tr {a b c:bV} (w:Op.bytesLess b a=false) (q:Op.bytesLess c b=false):Op.bytesLess c a=false:=by cases e:Op.bytesLess c a with
 |false=>rfl
 |true=>rw[abJ c a b e w] at q;cases q
def Yf:∀(p:List Def) (x:Def) (q:List Def),Wk (p.reverse++q)->(∀y∈q,Op.bytesLess y.Name x.Name=false)->Wk (GG p x q)
 |[],x,q,h,B=>c7.2 ⟨B,h⟩
 |y::p,x,q,h,B=>by unfold GG;rw[List.reverse_cons,dz] at h;cases e:Op.bytesLess x.Name y.Name with
  |true=>rw[aj];exact Yf p x (y::q) h λz Q=>(aJ.1 Q).elim (λD=>by rw[D];exact Gu _ _ e) (B z)
  |false=>
   rw[au,List.reverse_cons,dz];obtain⟨L,N,G⟩:=lB.1 h;obtain⟨O,P⟩:=c7.1 N;refine lB.2 ⟨L,c7.2 ⟨λb w=>(aJ.1 w).elim (λD=>by rw[D];exact e) (O b),c7.2 ⟨B,P⟩⟩,λa K b w=> ?_⟩;have I:=G a K y ai;rcases aJ.1 w with rfl|w
   .exact I
   .rcases aJ.1 w with rfl|w
    .exact wk_tr I e
    .exact G a K b (by simp[w])
def h573_1:∀(n i:Nat) (o:List Def),o.length=i+n->o.length<=1000->Wk (o.take i)->∃m,Ej 0 o.length i o=some ((),m)/\m.Perm o/\Wk m:=by intro n;induction n with
 |zero=>intro i o G I w;exact⟨o,Ww (by rw[cond_neg (by rw[bB];omega)]), .refl _,by rwa[gI af] at w⟩
 |succ n N=>
  intro i o G I w;have O:i<o.length:=af;have e:o=(o.take i).reverse.reverse++o[i]::o.drop (i+1):=by rw[List.reverse_reverse,List.getElem_cons_drop,jZ]
  have K:(o.take i).reverse.length=i:=by rw[List.length_reverse,dL];omega
  have P:(o.drop (i+1)).length=n:=by rw[iP];omega
  have q:(GG (o.take i).reverse o[i] (o.drop (i+1))).Perm o:=by have:=GH (o.take i).reverse o[i] (o.drop (i+1));rwa[<-e] at this
  have hl:=q.length_eq
  obtain⟨m,z,B,D⟩:=N (i+1) (GG (o.take i).reverse o[i] (o.drop (i+1))) af af (by
   rw[<-dU (o.drop (i+1)),Ty,mK (by rw[(GH _ _ _).length_eq];simp;omega)]
   exact Yf _ _ _ (by rw[List.reverse_reverse,eP];exact w) (λy L=>by cases L))
  rw[hl] at z;have key:=h573_4 (b:=(o.length:Int)) (i:=i) (o.take i).reverse o[i] (o.drop (i+1)) af (by rw[bJ af];exact z);rw[<-e,K] at key;exact⟨m,Ww (by rw[cond_pos (by rw[bN];omega)];exact key),B.trans q,D⟩
def c566 {w:List Def} (G:w.length<=4):∃m,f566 w=some ((),m)/\m.Perm w/\Wk m:=by
 have g:∃m,Ej 0 w.length 1 w=some ((),m)/\m.Perm w/\Wk m:=by cases w with
  |nil=>exact⟨[],Ww (by rw[cond_neg (by rfl)]), .refl _, .nil⟩
  |cons x w=>refine h573_1 w.length 1 (x::w) (by rw[bA];omega) af ?_;rw[Bj,zL];exact sI _ _
 obtain⟨m,q,z,B⟩:=g;refine⟨m,e566 ?_,z,B⟩;have D:f573 0 w.length w=some ((),m):=e573 q;rw[e570 (k570_2 (by rw[cond_neg (by rw[bB];omega),D,gw,k570_7 (by rw[cond_neg (by rw[bB];omega)])])),gw]
end Go.Proofs.YtacapiamkgkkjaaGreatDoor.cl.pf
namespace Go.Proofs.YtacapiamkgkkjaaGreatDoor.cl.pf
open Go Go.AM
abbrev sN (l:List Def):List bV:=l.map (·.Name)
abbrev DAsc (l:List Def):Prop:=l.Pairwise λa b=>Op.bytesLess a.Name b.Name=true
def afI:(Def.enc ⟨[],default,[]⟩)=aa5:=rfl
def c565 {l:List Def} (hl:l.length<=1000):f565 l=some l:=by refine pX ?_;refine lS ?_;have q:Nat.ble ((List.map Def.enc l).length *112) 140737488355328=true:=og (by grind);show(bif Nat.ble _ _ then _ else _)=_;rw[q];rfl
def c576 {R:List Def} {k:Nat} (w:k<R.length):∃l,f576 (k:Int) ((k+1:Nat):Int) R=some (R.length-1,l)/\l.length=R.length/\l.take (R.length-1)=R.take k++R.drop (k+1):=by
 refine⟨R.take k++R.drop (k+1)++[⟨[],default,[]⟩],?_,by simp;omega,?_⟩
 .refine pX (E:=E576r) ?_;refine lS ?_;have q:(decide ((0:Int)<=(k:Int))&&decide ((k:Int)<((k+1:Nat):Int))&&decide (((k+1:Nat):Int)<=((List.map Def.enc R).length:Int))&&Nat.beq 62 62)=true:=by
   rw[bI];simp;omega
  show(bif(decide ((0)<=(k))&&decide _&&decide _&&Nat.beq _ _) then some _ else _)=_;simp_all[eR,afI]
 grind[List.take_left']
theorem LA {l:List Def}:(sN l).Nodup↔∀(j:Nat) (x:Def),l[j]? =some x->qH (λy=>y.Name==x.Name) l 0=(j:Int):=by
 constructor
 .intro D j x G;rcases oA (λy:Def=>y.Name==x.Name) l 0 with⟨_,q⟩|⟨k,y,N,q,O,_⟩
  .have:=q x (aP G);simp_all
  .have L:=js.1 (ic.1 D);grind
 .intro h;rw[List.Nodup,ic,js];intro i j w B z e;have I:=h i _ (aM w);have K:=h j _ (aM B);grind
section
variable {l:List Def} (hl:l.length<=4) (hd:∀x∈l,JX x)
theorem V1 {S:List Def} (N:S.length<=1000) {r:List Def×Int} (L:(sN S).Nodup->Ga S.length 0 S (p6 (sN S))=some r) (G:¬(sN S).Nodup->r=([],4)):∀(xs:List Def) (i:Nat),S.drop i=xs->(sN (S.take i)).Nodup->Hr S.length i S (p6 (sN (S.take i)))=some r:=by intro xs;induction xs with
 |nil=>intro i q D;have O:=j0 q;rw[gI af] at D⊢;exact aef (by grind)
 |cons x xs K=>
  intro i q D;have P:=eM q;have B:=bU q;have I:sN (S.take (i+1))=sN (S.take i)++[x.Name]:=by rw[dy,B];simp
  refine aef ?_;rw[aR q,aj,jQ q,jP q];by_cases z:x.Name∈sN (S.take i)
  .rw[tO (show getM (p6 (sN (S.take i))) x.Name=some true by rw[Ad,aC z]),aj]
   rw[G λw=>by
    rw[<-jZ i S,q] at w;simp only[cE] at w
    exact(gW.1 w).2.2 _ z _ ai rfl]
  .rw[tN (by rw[Ad,aA z])];rw[xH,aN q af,K8,<-I];refine K _ (aI q) ?_;grind
theorem Xa (hl:l.length<=1000) {r:Int} (L:(sN l).Nodup->Hl l 0=some r) (B:¬(sN l).Nodup->r=4):∀(xs:List Def) (i:Nat),l.drop i=xs->(∀(j:Nat) (x:Def),j<i->l[j]? =some x->qH (λy=>y.Name==x.Name) l 0=(j:Int))->Mt l i=some r:=by intro xs;induction xs with
 |nil=>intro i q G;have N:=j0 q;exact ad2 (by rw[bg q,au];grind[LA,List.getElem?_eq_some_iff])
 |cons x xs I=>
  intro i q G;have w:=bU q;refine ad2 ?_;rw[aR q,aj,aK q,c539 _ _ af,ak];by_cases z:qH (λy=>y.Name==x.Name) l 0=(i)
  .rw[z,cond_neg ai,aN q af];refine I _ (aI q) λj y h K=> ?_
   grind
  .rw[cond_pos (by simp_all),B λD=>z (LA.1 D i x w)]
abbrev OP (q:List bV) (l:List Def):Bool:=l.all λx=>Bb q (nd x)
theorem X5 {S:List Def} (P:S.length<=1000) (B:∀x∈S,JX x) {z:List bV} {r:List Def×Int} (N:OP z S=true->vP [] S []=some r) (O:OP z S=false->r=([],5)):∀(xs:List Def) (i:Nat),S.drop i=xs->OP z (S.take i)=true->Ga S.length i S (p6 z)=some r:=by intro xs;induction xs with
 |nil=>intro i q G;have Q:=j0 q;rw[gI af] at G;exact YI (by grind)
 |cons x xs L=>intro i q G;have D:=bU q;obtain⟨w,I,K⟩:=c93a (B x (aP D)) z;refine YI ?_;rw[aR q,aj,jQ q,jP q,I,ak,K,ak];cases e:Bb _ _ with
  |false=>grind
  |true=>rw[dr,au,aN q af];refine L _ (aI q) ?_;grind
theorem q512_11 (hl:l.length<=1000) {i:Nat} (I:i<l.length) {w:List bV} (K:w.length<=1000) {r:Int}:∀(xs:List bV) (k:Nat),w.drop k=xs->(Bb (sN l) xs=true->Hl l ((i+1:Nat):Int)=some r)->(Bb (sN l) xs=false->r=5)->JM l i w k=some r:=by intro xs;induction xs with
 |nil=>intro k q z B;exact YF (by rw[bg q,au,bJ af];exact z rfl)
 |cons x xs G=>
  intro k q z B;have D:Bb (sN l) (x::xs)=((l.any λy=>y.Name==x)&&Bb (sN l) xs):=by unfold Bb;rw[jG,List.any_map];rfl
  rw[D] at z B;refine YF ?_;rw[aR q,aj,aK q,c539 _ _ af,ak,yW];cases e:l.any _ with
  |false=>simp_all
  |true=>rw[e] at z B;rw[dr,au,aN q af];exact G _ (aI q) z B
include hl hd
theorem ae2 {r:Int} (I:OP (sN l) l=true->vN l []=some r) (D:OP (sN l) l=false->r=5):∀(xs:List Def) (i:Nat),l.drop i=xs->OP (sN l) (l.take i)=true->Hl l i=some r:=by intro xs;induction xs with
 |nil=>intro i q B;have K:=j0 q;rw[gI af] at B;exact ad3 (by grind)
 |cons x xs G=>
  intro i q B;have z:=bU q;have w:=hd x (aP z);have L:=aeE w;refine ad3 ?_;rw[aR q,aj,aK q,c546 w,ak];refine q512_11 af (eM q) af _ 0 rfl (λe=>G _ (aI q) ?_) (λe=>D ?_)
  .grind
  grind
omit hl hd in
theorem aeM {ns:List bV}:∀(xs:List Def) (i:Nat) (q:Int),l.drop i=xs->
  ((q= -1/\∀(j:Nat) (x:Def),j<i->l[j]? =some x->x.Name∉ns->Bb ns (nd x)=false)\/∃(b:Nat) (y:Def),q=b/\l[b]? =some y/\y.Name∉ns/\Bb ns (nd y)=true/\∀(j:Nat) (x:Def),j<i->l[j]? =some x->x.Name∉ns->Bb ns (nd x)=true->Op.bytesLess x.Name y.Name=false)->
  (nxt ns l xs i q= -1/\∀x∈l,x.Name∉ns->Bb ns (nd x)=false)\/∃(b:Nat) (y:Def),nxt ns l xs i q=b/\l[b]? =some y/\y.Name∉ns/\Bb ns (nd y)=true/\∀x∈l,x.Name∉ns->Bb ns (nd x)=true->Op.bytesLess x.Name y.Name=false:=by
 intro xs;induction xs with
 |nil=>
  intro i q K I;have hg:=j0 K;rcases I with⟨w,I⟩|⟨b,y,w,N,R,h3,U⟩
  .refine .inl ⟨w,λx K B=> ?_⟩;obtain⟨j,O⟩:=gu.1 K;exact I j x (by have:=(bu.1 O).1;omega) O B
  .refine .inr ⟨b,y,w,N,R,h3,λx K B P=> ?_⟩;obtain⟨j,O⟩:=gu.1 K;exact U j x (by have:=(bu.1 O).1;omega) O B P
 |cons x xs ih=>
  intro i q K I;have L:=bU K;unfold nxt;have G:(ns.any λn=>n==x.Name)=true↔x.Name∈ns:=by rw[lD];exact⟨λ⟨n,N,R⟩=>by rw[<-show n=x.Name by simpa using R];exact N,λh=>⟨_,h,ai⟩⟩
  split
  .rename_i V;rw[aT,aT,gC,gE,bN] at V;obtain⟨c1,c2,Q⟩:=V;have hxn:x.Name∉ns:=λh=>by rw[G.2 h] at c1;cases c1
   refine ih (i+1) i (aI K) (.inr ⟨i,x,rfl,L,hxn,c2,λj z O D B P=> ?_⟩);by_cases e:j=i
   .subst e;rw[L] at D;cases D;exact yC _
   .rcases I with⟨w,I⟩|⟨b,y,w,N,R,h3,U⟩
    .rw[I j z af D B] at P;cases P
    .rcases Q with Q|Q
     .omega
     .rw[w,aS,N] at Q;have Q:Op.bytesLess x.Name y.Name=true:=Q;have h5:=U j z af D B P;cases S:Op.bytesLess z.Name x.Name with
      |false=>rfl
      |true=>rw[ri _ _ _ S Q] at h5;cases h5
  .rename_i V;refine ih (i+1) q (aI K) ?_;rcases I with⟨w,I⟩|⟨b,y,w,N,R,h3,U⟩
   .refine .inl ⟨w,λj z O D B=> ?_⟩;by_cases e:j=i
    .subst e;rw[L] at D;cases D;cases e2:Bb ns (nd x) with
     |false=>rfl
     |true=>refine(V ?_).elim;rw[w,e2];cases S:ns.any λn=>n==x.Name with
      |false=>rfl
      |true=>exact(B (G.1 S)).elim
    .exact I j z af D B
   .refine .inr ⟨b,y,w,N,R,h3,λj z O D B P=> ?_⟩;by_cases e:j=i
    .subst e;rw[L] at D;cases D;cases e2:Op.bytesLess x.Name y.Name with
     |false=>rfl
     |true=>refine(V ?_).elim;rw[w,aS,N,P];show((!(ns.any λn=>n==x.Name))&&(true&&(_||Op.bytesLess x.Name y.Name)))=true;rw[e2,Bool.or_true];cases S:ns.any λn=>n==x.Name with
      |false=>rfl
      |true=>exact(B (G.1 S)).elim
    .exact U j z af D B P
omit hl hd in
inductive Ord (l:List Def):List bV->List Def->Prop
 |fin {ns:List bV}:l.length<=ns.length->Ord l ns []
 |step {ns:List bV} {b:Nat} {x:Def} {xs:List Def}:ns.length<l.length->nxt ns l l 0 (-1)=b->l[b]? =some x->x.Name∉ns->Ord l (ns++[x.Name]) xs->Ord l ns (x::xs)
omit hl hd in
theorem Ord.len {q:List bV} {xs:List Def} (h:Ord l q xs):xs.length<=l.length-q.length:=by induction h with
 |fin _=>simp
 |step z _ _ _ _ w=>rw[bR,dY] at w;rw[bA];omega
theorem aeW:∀(n:Nat) (t:List Template) (o R:List Def),(t.map (·.Name)).length+n=l.length->R.length=n->o.length+n<=1000->DAsc R->(∀y,y∈R↔y∈l/\y.Name∉t.map (·.Name))->
  (∃xs,Ord l (t.map (·.Name)) xs/\vN l t=some 0/\vP o R (p6 (t.map (·.Name)))=some (o++xs,0))\/(vN l t=some 6/\vP o R (p6 (t.map (·.Name)))=some ([],6)):=by
 intro n;induction n with
 |zero=>intro t o R V h2 h3 h4 w;rw[bI] at V;obtain rfl:=ku h2;exact .inl ⟨[], .fin (by rw[bI];omega),PL (by simp_all),PU ai⟩
 |succ n ih=>
  intro t o R V h2 h3 h4 w;have h1':t.length+(n+1)=l.length:=by rwa[bI] at V
  obtain⟨e1,_⟩:=c526 (t:=t) af af hd;have hdR:∀x∈R,JX x:=λx hx=>hd x ((w x).1 hx).1
  have e2:=c575 (l:=R) af hdR (t.map (·.Name));rcases aeM (l:=l) (ns:=t.map (·.Name)) l 0 (-1) rfl (.inl ⟨rfl,λj x Q=>by omega⟩) with⟨q1,N⟩|⟨b,x,q1,N,q3,q4,q5⟩
  .refine .inr ⟨PL ?_,PU ?_⟩
   .grind
   .rw[cond_pos (by rw[bN];omega),e2,ak,yW,show(R.any λx=>Bb (t.map (·.Name)) (nd x))=false from mD.2 λy S=>by rw[N y ((w y).1 S).1 ((w y).1 S).2];decide,fE,aj]
  .obtain⟨KO,Tj⟩:=bu.1 N;have K:x∈R:=(w x).2 ⟨aP N,q3⟩;obtain⟨k,hk,D,hkp⟩:∃k,k<R.length/\R[k]? =some x/\qH (λx=>Bb (t.map (·.Name)) (nd x)) R 0=(k:Int):=by
    rcases oA (λx=>Bb (t.map (·.Name)) (nd x)) R 0 with⟨_,U⟩|⟨k,y,w1,U,w3,w4⟩
    .rw[U x K] at q4;cases q4
    .obtain⟨j,Q⟩:=gu.1 K;obtain⟨hjl,hjx⟩:=bu.1 Q;obtain⟨B,hky⟩:=bu.1 U;have hjk:j=k:=by
      rcases sG j k with h|h|h
      .have:=w4 j h x Q;rw[q4] at this;cases this
      .exact h
      .have z:=js.1 h4 k j B hjl h;have L:=(w y).1 (aP U);rw[hky,hjx,q5 y L.1 L.2 w3] at z;cases z
     exact⟨k,B,hjk▸Q,by rw[w1];omega⟩
   obtain⟨l2,d1,d2,d3⟩:=c576 hk;have hR:R=R.take k++x::R.drop (k+1):=by obtain⟨_,rfl⟩:=bu.1 D;simp
   have G:(t++[(⟨x.Name,⟨[]⟩,[]⟩:Template)]).map (·.Name)=t.map (·.Name)++[x.Name]:=ai;have I:=h4;rw[hR] at I;obtain⟨p1,p2,p3⟩:=lB.1 I;obtain⟨p4,p5⟩:=c7.1 p2;have key:=ih (t++[⟨x.Name,⟨[]⟩,[]⟩]) (o++[x]) (R.take k++R.drop (k+1)) aH aH aH
    (lB.2 ⟨p1,p5,λa ha b hb=>p3 a ha b (by simp[hb])⟩) (λy=>by
     rw[G];have S:y∈R↔y∈R.take k\/y=x\/y∈R.drop (k+1):=by rw[<-aJ,<-bf,<-hR]
     have z:=w y;rw[S] at z;rw[bf,bf,bZ];constructor
     .intro h;have O:=z.1 (h.elim .inl λh=> .inr (.inr h));refine⟨O.1,λP=>P.elim O.2 λe=> ?_⟩;rcases h with h|h
      .exact By (p3 y h x ai) e
      .exact By (p4 y h) e.symm
     .rintro⟨O,P⟩;rcases z.2 ⟨O,λh=>P (.inl h)⟩ with h|h|h
      .exact .inl h
      .exact(P (.inr (by rw[h]))).elim
      .exact .inr h)
   rw[G] at key
   have f1:∀{r},vN l (t++[⟨x.Name,⟨[]⟩,[]⟩])=some r->vN l t=some r:=λ{r} hr=>PL (by
    rw[cond_pos (by grind),e1,ak,q1,cond_neg (by rfl),cR KO,Tj,dG ⟨by simp only[dY];omega,by grind⟩]
    omega)
   have f2:∀{r},vP (o++[x]) (R.take k++R.drop (k+1)) (p6 (t.map (·.Name)++[x.Name]))=some r->vP o R (p6 (t.map (·.Name)))=some r:=λ{r} hr=>PU (by
    have q:R[k]=x:=(bu.1 D).2;rw[cond_pos (by grind),e2,ak,hkp,cond_neg (by rfl),dG af,aS,mQ hk,q,xH,K8,dG af,mQ hk,q,dG ⟨by grind,by grind⟩,bJ af,d1,gw,dG af,d3]
    omega)
   rcases key with⟨xs,g1,g2,g3⟩|⟨g2,g3⟩
   .exact .inl ⟨_, .step af q1 N q3 g1,f1 g2,f2 (by grind)⟩
   grind
theorem c564:∃r xs,f512 l=some r/\f564 l=some (xs,r)/\(r=0->Ord l [] xs)/\(r≠0->xs=[]):=by
 obtain⟨S,s1,P,s3⟩:=c566 hl;have U:=P.length_eq;have q:∀y,y∈S↔y∈l:=λy=>P.mem_iff
 have D:(sN S).Nodup↔(sN l).Nodup:=(P.map _).nodup_iff;have N:∀x∈S,JX x:=λx O=>hd x ((q x).1 O)
 have hr:∀w,Bb (sN S) w=Bb (sN l) w:=λw=>by
  have:Bb (sN S) w=true↔Bb (sN l) w=true:=by rw[Jv,Jv];exact⟨λh s V=>(P.map (·.Name)).mem_iff.1 (h s V),λh s V=>(P.map (·.Name)).mem_iff.2 (h s V)⟩
  exact ia.2 this
 have G:OP (sN S) S=OP (sN l) l:=by refine ia.2 ?_;rw[cv,cv];exact⟨λh x O=>by rw[<-hr];exact h x ((q x).2 O),λh x O=>by rw[hr];exact h x ((q x).1 O)⟩
 have go:∀{r xs},Mt l 0=some r->Hr S.length 0 S []=some (xs,r)->f512 l=some r/\f564 l=some (xs,r):=λ{r xs} B z=>⟨e512 B,e564 (by rw[c565 af,ak,s1,gw];exact z)⟩
 by_cases I:(sN l).Nodup
 .cases R:OP (sN l) l with
  |false=>
   obtain⟨B,z⟩:=go (r:=5) (xs:=[]) (Xa af (λ_=>ae2 hl hd (λh=>by rw[R] at h;cases h) (λ_=>rfl) l 0 rfl rfl) (λh=>(h I).elim) l 0 rfl (λj x hj=>by omega))
    (V1 (S:=S) af (λ_=>X5 af N (λh=>by rw[G,R] at h;cases h) (λ_=>rfl) S 0 rfl rfl) (λh=>(h (D.2 I)).elim) S 0 rfl qk)
   exact⟨5,[],B,z,λh=>(by cases h),λ_=>rfl⟩
  |true=>
   have L:DAsc S:=by
    have h1:S.Pairwise λa b=>a.Name≠b.Name:=ic.1 (D.2 I)
    refine(List.Pairwise.and s3 h1).imp λ{a b} h=>uq _ _ h.1 λe=>h.2 e.symm
   have key:=aeW hl hd l.length [] [] S ai U aH L (λy=>by simp[q]);have K:∀{r xs},vN l []=some r->vP [] S []=some (xs,r)->f512 l=some r/\f564 l=some (xs,r):=λ{r xs} B z=>
    go (Xa af (λ_=>ae2 hl hd (λ_=>B) (λh=>by rw[R] at h;cases h) l 0 rfl rfl) (λh=>(h I).elim) l 0 rfl (λj x hj=>by omega))
     (V1 (S:=S) af (λ_=>X5 af N (λ_=>z) (λh=>by rw[G,R] at h;cases h) S 0 rfl rfl) (λh=>(h (D.2 I)).elim) S 0 rfl qk)
   rcases key with⟨xs,B,z,Q⟩|⟨z,Q⟩
   .obtain⟨j1,j2⟩:=K z (by rw[dU] at Q;exact Q);exact⟨0,xs,j1,j2,λ_=>B,λh=>(h rfl).elim⟩
   .obtain⟨j1,j2⟩:=K z Q;exact⟨6,[],j1,j2,λh=>(by cases h),λ_=>rfl⟩
 .obtain⟨B,z⟩:=go (r:=4) (xs:=[]) (Xa af (λh=>(I h).elim) (λ_=>rfl) l 0 rfl (λj x hj=>by omega))
   (V1 (S:=S) af (λh=>(I (D.1 h)).elim) (λ_=>rfl) S 0 rfl qk)
  exact⟨4,[],B,z,λh=>(by cases h),λ_=>rfl⟩
end
end Go.Proofs.YtacapiamkgkkjaaGreatDoor.cl.pf
namespace Go.Proofs.YtacapiamkgkkjaaGreatDoor.cl.pf
open Go Go.AM
abbrev DC:bV:=[108,105,115,116]
abbrev FN:bV:=[99,111,110,115]
abbrev DE:bV:=[110,117,108,108]
abbrev Au:bV:=[100,108,105,115,116]
abbrev s8:bV:=[70,73,82,83,84]
abbrev y7:bV:=[82,69,83,84]
abbrev IL:bV:=[76,73,83,84]
abbrev y6:bV:=[76,65,83,84]
structure LT (h:aV):Prop where
 li:0<=oE h DC
 co:0<=oE h FN
 nu:0<=oE h DE
 dl:0<=oE h Au
 fi:0<=jR h s8
 re:0<=jR h y7
 he:0<=jR h IL
 la:0<=jR h y6
def YN (a b:Int):decide ((if a<b then a else b)<0)=(decide (a<0)||decide (b<0)):=by
 by_cases h:a<b
 .rw[aC h];by_cases q:a<0
  .simp[q]
  .have:¬b<0:=af
   simp[q,this]
 .rw[aA h];by_cases q:b<0
  .simp[q]
  .have:¬a<0:=af
   simp[q,this]
section
variable {h:aV} {T F:Nat} {sb:Int->Int->Prop} {cz:Int->Int} {val:Int->Int->Int} (H:HX h T F sb cz val) (hT:T<=1000) (hF:F<=300)
include H hT hF
theorem c529 {nu:Int} (P:0<=nu/\nu<(T:Int)) (w:world) (Q:w.null=nu):∃N,(Option.bind (f550 1) λz=>bif(!z) then(some ((FSt.mk ([]:List Node)),7)) else(Option.bind (f551 w) λB=>Option.bind (f552 w B) λD=>Option.bind (f437 D.1) λq=>some (q.1,q.2)))=some (N,(0:Int)):=by
 have G:f550 1=some true:=e550 (k550_2 (by rw[cond_neg (by rfl)]));have I:f551 w=some nu:=e551 (by rw[Q]);have K:f552 w nu=some (⟨[⟨nu,[]⟩]⟩,0):=by refine e552 (k552_3 ?_);rw[cond_neg (by rfl),cF _ ai ai af];rfl
 have O:Can T F ⟨[⟨nu,[]⟩]⟩:=vF (T:=T) (F:=F) (π:=[]) (t:=nu) af ai P;have L:=c437 O ai af ai;refine⟨⟨[⟨nu,[]⟩]⟩,?_⟩;rw[G,ak,cond_neg (by rfl),I,ak,K,ak,L,ak]
theorem c516:∃b,f516 h=some b/\(b=true->LT h)/\∃fs e,f529 h=some (fs,e)/\(e !=0)= !b:=by
 have hfl:=H.hv.fl;have htl:=H.tl;have I:∀s,f352 h s=some (oE h s):=λs=>c352 s h af
 have K:∀s,f364 h s=some (oE h s):=λs=>c364 s h af
 have L:∀s,f363 h s=some (jR h s):=λs=>c363 s h af
 have N:∀s,f365 h s=some (jR h s):=λs=>zZ s h af
 have tl:∀s,oE h s<(T:Int):=λs=>by
  have:oE h s<(h.Types.length:Int):=(Ql _ _).1
  omega
 have l1:=tl DC;have l2:=tl FN;have l3:=tl DE;have l4:=tl Au;by_cases D:0<=oE h DC/\0<=oE h FN/\0<=oE h DE/\0<=oE h Au/\0<=jR h s8/\0<=jR h y7/\0<=jR h IL/\0<=jR h y6
 .obtain⟨z,O,B,Q,R,S,U,h8⟩:=D;obtain⟨P,s1,s2,_⟩:=H.ss _ _ z l1 O l2;obtain⟨V,s3,s4,_⟩:=H.ss _ _ z l1 B l3;have w:∀{x:Int},0<=x->decide (x<0)=false:=λhx=>by rw[bB];omega
  refine⟨P&&V,e516 ?_,λ_=>⟨z,O,B,Q,R,S,U,h8⟩,?_⟩
  .rw[K,ak,K,ak,K,ak,w z,au,w O,au,w B,au,K,ak,w Q,au,N,ak,w R,au,N,ak,w S,au,N,ak,w U,au,N,ak,w h8,au,s2,ak];cases P with
   |false=>rw[au];rfl
   |true=>rw[aj,s4,ak];rfl
  .have o:∀r,(bif(!P) then(some ((world.mk (aV.mk ([]:List fL) ([]:List dg)) 0 0 0 0 0 0 0 0),(5:Int))) else(Option.bind (f339 h (oE h DC) (oE h DE)) λy219=>bif(!y219) then(some ((world.mk (aV.mk ([]:List fL) ([]:List dg)) 0 0 0 0 0 0 0 0),5)) else(some ((world.mk h (oE h DC) (oE h FN) (oE h DE) (oE h Au) (jR h s8) (jR h y7) (jR h IL) (jR h y6)),0))))=some r->f549 h=some r:=λr hr=>by
    refine e549 ?_;rw[I,ak,I,ak,I,ak,I,ak,L,ak,L,ak,L,ak,L,ak];simp only[YN,w z,w O,w B,w Q,w R,w S,w U,w h8,sq,au];rw[s1,ak];exact hr
   cases hb:P&&V with
   |true=>
    have e1:P=true:=by cases P<;>simp_all
    have e2:V=true:=by cases V<;>simp_all
    obtain⟨fs,g⟩:=c529 H hT hF ⟨B,l3⟩ (world.mk h (oE h DC) (oE h FN) (oE h DE) (oE h Au) (jR h s8) (jR h y7) (jR h IL) (jR h y6)) rfl;refine⟨fs,0,e529 ?_,rfl⟩;have q:f549 h=some (_,0):=o _ (by rw[e1,cond_neg (by rfl),s3,ak,e2,cond_neg (by rfl)]);rw[e541 (r:=(fs,0)) (by rw[q,ak,cond_neg (by rfl)];exact g),ak]
   |false=>
    refine⟨⟨[]⟩,5,e529 ?_,rfl⟩
    have q:f549 h=some (_,5):=o (world.mk (aV.mk ([]:List fL) ([]:List dg)) 0 0 0 0 0 0 0 0,5) (by cases P with
     |false=>rw[cond_pos (by rfl)]
     |true=>cases V with
      |true=>cases hb
      |false=>rw[cond_neg (by rfl),s3,ak,cond_pos (by rfl)])
    rw[e541 (r:=(⟨[]⟩,5)) (by rw[q,ak,cond_pos (by rfl)]),ak]
 .have w:∀{x:Int},¬x<0->decide (x<0)=false:=λhx=>by rw[bB];exact hx
  have G:∀{x:Int},x<0->decide (x<0)=true:=λhx=>vv hx
  refine⟨false,e516 ?_,λhb=>(by cases hb),⟨[]⟩,5,e529 ?_,rfl⟩
  .rw[K,ak,K,ak,K,ak];by_cases z:oE h DC<0
   .rw[G z,aj]
   rw[w z,au];by_cases O:oE h FN<0
   .rw[G O,aj]
   rw[w O,au];by_cases B:oE h DE<0
   .rw[G B,aj]
   rw[w B,au,K,ak];by_cases Q:oE h Au<0
   .rw[G Q,aj]
   rw[w Q,au,N,ak];by_cases R:jR h s8<0
   .rw[G R,aj]
   rw[w R,au,N,ak];by_cases S:jR h y7<0
   .rw[G S,aj]
   rw[w S,au,N,ak];by_cases U:jR h IL<0
   .rw[G U,aj]
   rw[w U,au,N,ak,G (x:=jR h y6) af,aj]
  .have q:f549 h=some (world.mk (aV.mk ([]:List fL) ([]:List dg)) 0 0 0 0 0 0 0 0,5):=by
    refine e549 ?_;rw[I,ak,I,ak,I,ak,I,ak,L,ak,L,ak,L,ak,L,ak];simp only[YN];rw[cond_pos];simp only[gC,mH];unfold DC FN DE Au s8 y7 IL y6 at D;omega
   rw[e541 (r:=(⟨[]⟩,5)) (by rw[q,ak,cond_pos (by rfl)]),ak]
end
