/- First paths (both walks); the same sharings in the program a. -/
import Derived.Test.YthppjmoncapdfaaGreatDoorClXq
set_option linter.all false
open List (replicate)
namespace Go.Proofs.YthppjmoncapdfaaGreatDoor.cl.pf
open Go Go.AM
def UP {q R:Type} {l:List q} {i:Nat} {x:q} (h:l[i]? =some x) (k:q->Option R):check (0<=(i:Int)/\Int.toNat (i:Int)<l.length) (fm l (Int.toNat (i:Int)) k)=k x:=by grind[yc,iA]
def gN (f:FSt):List uH:=f.au.map λx=>(x.ef,x.cG.map λa=>(a.aV,a.To))
def Ag:∀l:List Node,rC (l.map Node.enc)=some (l.map λx=>(x.ef,x.cG.map λa=>(a.aV,a.To)))
 |[]=>rfl
 |x::l=>by
  rw[aK,aK]
  show(match rL _,rC _ with
   |some a,some r=>some _
   |_,_=>none)=_
  rw[Bm,Ag l]
def sw:∀(l:List Int) (w out:List (List Int)) (t:Int) (p:List Int),l.length=w.length->yx out (l++[t]) (w++[p])=(yx out l w).set t.toNat p
 |[],[],out,t,p,_=>rfl
 |n::l,q::w,out,t,p,h=>sw l _ _ t p (by simp_all)
 |[],_::_,_,_,_,h=>by cases h
 |_::_,[],_,_,_,h=>by cases h
abbrev Qs:=List (Nat×List Int)
def AL (l:Qs):List Int:=l.map λa=>(a.1:Int)
def Gp (l:Qs):List (List Int):=l.map (·.2)
structure BI (f:FSt) (i:Nat) (sn:List Bool) (qs:Qs) (out:List (List Int)):Prop where
 nd:(qs.map (·.1)).Nodup
 lt:∀a∈qs,a.1<f.au.length
 sl:sn.length=f.au.length
 se:∀x,x<f.au.length->(sn.getD x false=true↔x∈qs.map (·.1))
 hd:qs[0]? =some (0,[])
 at_:∀a∈qs,wT f a.2=some a.1
 ln:∀(j:Nat) a,qs[j]? =some a->a.2.length<=j
 pr:∀a∈qs,a.2=[]\/∃b∈qs,∃g,a.2=b.2++[g]
 mo:qs.Pairwise λa b=>a.2.length<=b.2.length
 up:∀b,qs[i]? =some b->∀a∈qs,a.2.length<=b.2.length+1
 cl:∀(j:Nat) b,j<i->qs[j]? =some b->∀p∈j9 f b.1,∃a∈qs,a.1=p.2/\a.2.length<=b.2.length+1
 oe:out=yx (replicate f.au.length []) (AL qs) (Gp qs)
 ol:out.length=f.au.length
 oa:∀a∈qs,out[a.1]? =some a.2
def BI.le {f:FSt} {i:Nat} {z:List Bool} {l:Qs} {out:List (List Int)} (I:BI f i z l out):l.length<=f.au.length:=by
 have:=uw I.nd λx w=>by obtain⟨a,q,rfl⟩:=aA.1 w;exact I.lt a q
 simp_all
def BI.snoc {T F:Nat} {f:FSt} (hf:Can T F f) {i:Nat} {N:List Bool} {q:Qs} {out:List (List Int)} (I:BI f i N q out) {b:Nat×List Int} (z:q[i]? =some b) {g:Int} {t:Nat} (K:(g,t)∈j9 f b.1) (H:t∉q.map (·.1)):
  BI f i (N.set t true) (q++[(t,b.2++[g])]) (out.set t (b.2++[g])):=by
 have D :=(bp.1 z).1;have B:=aS z;have P :=hf.bd _ (I.lt b B) _ K;refine⟨?_,λa l=> ?_,by rw[gr];exact I.sl,λx L=> ?_,?_,λa l=> ?_,λj a l=> ?_,λa l=> ?_,?_,λc w a l=> ?_,λj c G w p O=> ?_,?_,by rw[gr];exact I.ol,λa l=> ?_⟩
 .rw[bw,jU];refine⟨I.nd,by simp,λx L y Q=> ?_⟩;grind
 .rcases bn.1 l with l|l
  .exact I.lt a l
  simp_all
 .rw[fe];by_cases e:t=x
  .subst e;rw[ak ⟨rfl,by rw[I.sl];omega⟩];simp
  .rw[az (λh=>e h.1),I.se x L];grind
 .rw[c7 af];exact I.hd
 .rcases bn.1 l with l|l
  .exact I.at_ a l
  .simp at l;subst l;exact uU.2 ⟨_,I.at_ b B,(qm (hf.x5 _)).2 K⟩
 .by_cases G:j<q.length
  .rw[c7 G] at l;exact I.ln j a l
  .have:=I.ln i b z;grind
 .rcases bn.1 l with l|l
  .rcases I.pr a l with h|⟨c,w,h⟩
   .simp_all
   grind
  grind
 .rw[mZ];refine⟨I.mo,by simp,λa l c w=> ?_⟩;have:=I.up b z a l;simp_all
 .rw[c7 D,z] at w;cases w;rcases bn.1 l with l|l
  .exact I.up b z a l
  simp_all
 .rw[c7 af] at w;obtain⟨a,l,h⟩:=I.cl j c G w p O;grind
 .have:yx (replicate f.au.length []) (AL (q++[(t,b.2++[g])])) (Gp (q++[(t,b.2++[g])]))=(yx (replicate f.au.length []) (AL q) (Gp q)).set t (b.2++[g]):=by
   unfold AL Gp;rw[bw,bw];exact sw _ _ _ _ _ ah
  rw[this,<-I.oe]
 .rcases bn.1 l with l|l
  .have:t≠a.1:=λe=>H (e▸aA.2 ⟨a,l,rfl⟩)
   rw[fo this];exact I.oa a l
  .simp at l;subst l;rw[ji (by rw[I.ol];omega)]
def BI.next {f:FSt} {i:Nat} {D:List Bool} {l:Qs} {out:List (List Int)} (I:BI f i D l out) {b:Nat×List Int} (z:l[i]? =some b) (B:∀p∈j9 f b.1,∃a∈l,a.1=p.2/\a.2.length<=b.2.length+1):BI f (i+1) D l out:=by
 refine { I with up:=λc B a G=> ?_,cl:=λj c N q=> ?_ }
 .have L:=I.up b z a G;obtain⟨H,e⟩:=bp.1 z;obtain⟨w,K⟩:=bp.1 B;have:=(tv.1 I.mo) i _ H w af;grind
 .by_cases e:j=i
  .grind
  .exact I.cl j c af q
section
variable {T F:Nat} {f:FSt} (hf:Can T F f) (hn:f.au.length<=100000) (hF:F<=1000)
include hf hn hF
theorem Rl {i:Nat} {x:Node} {b:Nat×List Int} (hx:f.au[b.1]? =some x):∀(xs:List bD) (k:Nat) (B:List Bool) (l:Qs) (out:List (List Int)),x.cG.drop k=xs->BI f i B l out->l[i]? =some b->
  ∃D w q,AD b.2 (xs.map λa=>(a.aV,a.To)) B (AL l) (Gp l)=some (D,AL w,Gp w)/\BI f i D w q/\(∃m,w=l++m)/\(∀a∈xs,∃c∈w,c.1=a.To.toNat/\c.2.length<=b.2.length+1)/\
   ∀r,CB ((i+1:Nat):Int) f q D (AL w)=some r->yT (i:Int) x.cG (k:Int) f out B (AL l)=some r:=by
 have P:=hf.ao (aS hx);have hal:=P.len;have hsc:j9 f b.1=NB x:=by unfold j9;rw[hx]
 intro xs;induction xs with
 |nil=>intro k B l out z I G;refine⟨B,l,out,rfl,I,⟨[],ah⟩,λa W=>by(cases W),λr hr=>ES ?_⟩;have:=I.le;have hil:i<l.length:=(bp.1 G).1;rw[dA z,aj,cQ af];omega
 |cons a xs ih=>
  intro k B l out z I G;have hil:i<l.length:=(bp.1 G).1;have hN:=I.le;have hbm:=aS G;have O:=aS (dP z);have W:=P.ok a O;obtain⟨t,R⟩:=iZ W.2.1;have K:t<f.au.length:=af;have L:a.To.toNat=t:=af;have hs:(a.aV,t)∈j9 f b.1:=by rw[hsc];exact aA.2 ⟨a,O,by rw[L]⟩
  have z1:t<B.length:=by rw[I.sl];exact K
  have H:B[t]? =some (B.getD t false):=by rw[bQ,aW z1];rfl
  have U:AD b.2 ((a.aV,a.To)::xs.map λa=>(a.aV,a.To)) B (AL l) (Gp l)=bif B.getD t false then AD b.2 (xs.map λa=>(a.aV,a.To)) B (AL l) (Gp l) else AD b.2 (xs.map λa=>(a.aV,a.To)) (B.set t true) (AL l++[a.To]) (Gp l++[b.2++[a.aV]]):=by rw[AD,L,H];simp only[];grind
  rw[aK,U];cases e:B.getD t false with
  |true=>
   obtain⟨D,w,q,S,V,⟨m,rfl⟩,g4,g5⟩:=ih (k+1) B l out (cg z) I G;refine⟨D,_,q,S,V,⟨m,rfl⟩,λc N=> ?_,λr hr=>ES ?_⟩
   .rcases aD.1 N with rfl|N
    .obtain⟨d,Q,hd2⟩:=aA.1 ((I.se t K).1 e);exact⟨d,eS _ Q,by omega,I.up b G d Q⟩
    .exact g4 c N
   .rw[cN z,ai,bN z,R,UP H,e,cond_neg (by rfl),dF z af];simp_all
  |false=>
   have hno:t∉l.map (·.1):=λh=>by rw[(I.se t K).2 h] at e;cases e
   have I2:=I.snoc hf G hs hno;have en:AL (l++[(t,b.2++[a.aV])])=AL l++[a.To]:=by unfold AL;rw[bw,R];rfl
   have ep:Gp (l++[(t,b.2++[a.aV])])=Gp l++[b.2++[a.aV]]:=by unfold Gp;rw[bw];rfl
   obtain⟨D,w,q,S,V,⟨m,rfl⟩,g4,g5⟩:=ih (k+1) _ _ _ (cg z) I2 (by grind);rw[en,ep] at S;refine⟨D,_,q,S,V,⟨_,by rw[eo]⟩,λc N=> ?_,λr hr=>ES ?_⟩
   .rcases aD.1 N with rfl|N
    .exact⟨(t,b.2++[c.aV]),by simp,L.symm,ah⟩
    simp_all
   .have Gn:=I.ln i b G;have h1:(AL l)[i]? =some (b.1:Int):=by unfold AL;rw[dz,G];rfl
    have h2:=I.oa b hbm;have h3:out[t]? =some (out.getD t []):=by rw[bQ,aW (by rw[I.ol];omega)];rfl
    have h4:(AL l).length=l.length:=by unfold AL;simp
    rw[cN z,bN z,R,UP H,bN z,R,UP H,bN z,UP h1,UP h2,cu _ ah af af,bN z,cu _ aX ah af,R,UP h3,bN z,cu _ af ah af,dF z af];simp_all
theorem Tu:∀(k i:Nat) (z:List Bool) (l:Qs) (out:List (List Int)),f.au.length<k+i->i<=l.length->BI f i z l out->
  ∃B w q,SF (gN f) k i z (AL l) (Gp l)=some (AL w,Gp w)/\CB (i:Int) f out z (AL l)=some q/\BI f w.length B w q:=by
 intro k;induction k with
 |zero=>intro i z l out h1 h2 I;have:=I.le;omega
 |succ k ih=>
  intro i z l out h1 h2 I;have hN:=I.le;have h4:(AL l).length=l.length:=by unfold AL;simp
  have h5:(Gp l).length=l.length:=by unfold Gp;simp
  by_cases hi:i=l.length
  .subst hi;refine⟨z,l,out,?_,Pr ?_,I⟩
   .rw[SF,fE af]
   .rw[cond_neg (by rw[bM];omega)]
  .have H:i<l.length:=af;have D:l[i]? =some l[i]:=aW H;generalize l[i]=b at D;have N:=aS D;have G:=I.lt b N;have O:f.au[b.1]? =some f.au[b.1]:=aW G;obtain⟨B,w,q,U,V,⟨m,rfl⟩,g4,g5⟩:=Rl hf hn hF O f.au[b.1].cG 0 z l out rfl I D;have L:(l++m)[i]? =some b:=by rw[c7 H];exact D
   have W:=V.next L λp R=>by
    have:j9 f b.1=NB f.au[b.1]:=zB G
    rw[this] at R;obtain⟨a,ha,rfl⟩:=aA.1 R;exact g4 a ha
   obtain⟨Q,P,K,q1,q2,q3⟩:=ih (i+1) B _ q af (by rw[cC];omega) W;have S:(AL l)[i]? =some (b.1:Int):=by unfold AL;rw[dz,D];rfl
   have n2:(Gp l)[i]? =some b.2:=by unfold Gp;rw[dz,D];rfl
   refine⟨Q,P,K,?_,Pr ?_,q3⟩
   .rw[SF,S,n2];simp only[bf]
    have:(gN f)[b.1]? =some (f.au[b.1].ef,f.au[b.1].cG.map λa=>(a.aV,a.To)):=by unfold gN;rw[dz,O];rfl
    rw[this];simp only[];rw[U];exact q1
   .rw[cond_pos (by rw[bG];omega),UP S,ff O];exact g5 _ q2
structure Fst (f:FSt) (P:List (List Int)):Prop where
 len:P.length=f.au.length
 at_:∀i,i<f.au.length->wT f (P.getD i [])=some i
 zero:P.getD 0 []=[]
 ln:∀i,i<f.au.length->(P.getD i []).length<=f.au.length
 Ve:∀i,i<f.au.length->∀p∈j9 f i,(P.getD p.2 []).length<=(P.getD i []).length+1
 pre:∀p∈P,∀j,p.take j∈P
theorem OF:∃P,f415 f=some P/\f416 f=some P/\Fst f P:=by
 have V:=hf.ne;have R:BI f 0 ((replicate f.au.length false).set 0 true) [(0,[])] (replicate f.au.length []):=by
  refine⟨ah,λa l=>by simp_all,by simp,λx N=> ?_,rfl,λa l=>by simp at l;subst l;rfl,λj a l=> ?_,λa l=>by simp_all,by simp,λc H a l=>by simp_all,λj c w=>absurd w af,?_,by simp,λa l=> ?_⟩
  .grind
  .grind
  .show _=(replicate f.au.length []).set 0 [];simp
  .simp_all
 obtain⟨sn,G,P,S,U,I⟩:=Tu hf hn hF (f.au.length+1) 0 _ _ _ af ah R;have q:∀x,x<f.au.length->∃a∈G,a.1=x:=by
  intro x N;have hr:=hf.Qv N
  have:x∈G.map (·.1):=by clear N;induction hr with
   |root=>exact aA.2 ⟨(0,[]),aS I.hd,rfl⟩
   |step _ B Q=>obtain⟨a,l,rfl⟩:=aA.1 Q;obtain⟨j,w⟩:=fG.1 l;obtain⟨c,H,e,_⟩:=I.cl j a (bp.1 w).1 w _ B;grind
  obtain⟨a,l,e⟩:=aA.1 this;exact⟨a,l,e⟩
 have O:∀a∈G,P.getD a.1 []=a.2:=λa l=>by rw[bQ,I.oa a l];rfl
 have hl:=I.le;refine⟨P,?_,e416 ?_,⟨I.ol,λi z=> ?_,?_,λi z=> ?_,λi z p B=> ?_,λp B j=> ?_⟩⟩
 .refine gD (E:=EN Q6) ?_;refine mR ?_
  show(match rC (f.au.map Node.enc) with
   |some g=>bif Nat.blt 0 g.length&&Nat.ble g.length 1073741824 then(tP g).map λ(ps:List (List Int))=>(AV.c4 1 (ps.map λ(p:List Int)=>[AV.c4 1 (p.map λ(n:Int)=>[AV.int .i64 n])]),[]) else none
   |none=>none)=_
  rw[Ag];have W:(gN f).length=f.au.length:=by unfold gN;simp
  have B:tP (gN f)=some P:=by
   unfold tP;rw[W]
   have:SF _ _ 0 _ [0] [[]]=some _:=S
   rw[this,I.oe];rfl
  have K:Nat.blt 0 (gN f).length=true:=gp af;have L:Nat.ble (gN f).length 1073741824=true:=gp af;show(bif Nat.blt 0 (gN f).length&&Nat.ble (gN f).length _ then(tP (gN f)).map _ else none)=_;rw[K,L,B];rfl
 .rw[bJ ⟨af,by omega,by omega,af⟩,bJ ⟨af,by omega,by omega,af⟩,bJ ⟨af,by simp_all⟩,iA (x:=false) (by simp[V])];exact U
 .obtain⟨a,l,rfl⟩:=q i z;rw[O a l];exact I.at_ a l
 .exact O _ (aS I.hd)
 .obtain⟨a,l,rfl⟩:=q i z;obtain⟨j,w⟩:=fG.1 l;have:=I.ln j a w;grind
 .obtain⟨a,l,rfl⟩:=q i z;obtain⟨j,w⟩:=fG.1 l;obtain⟨c,H,e,h⟩:=I.cl j a (bp.1 w).1 w _ B;grind
 .have key:∀(n) (a),a∈G->a.2.length<=n->∃c∈G,a.2.take j=c.2:=by
   intro n;induction n with
   |zero=>grind
   |succ n Q=>
    intro a l h;by_cases w:a.2.length<=j
    .grind[List.take_of_length_le]
    .rcases I.pr a l with e|⟨b,hb,g,e⟩
     .simp_all
     grind
  obtain⟨i,z⟩:=fG.1 B;have D:=(bp.1 z).1;rw[I.ol] at D;obtain⟨a,l,rfl⟩:=q i D;rw[I.oa a l] at z;cases z;obtain⟨c,H,e⟩:=key _ a l (aJ _);rw[e];exact aS (I.oa c H)
end
def c445 {p q:List Int} (K:p.length<=1000000):∃r,f445 p q=some r/\f484 p q=some r/\(r=true↔p=q):=by
 by_cases hl:p.length=q.length
 .have key:∀(xs z) (i),p.drop i=xs->q.drop i=z->xs.length=z.length->∃r,Gc p q (i)=some r/\Gf p q (p.length) (i)=some r/\(r=true↔xs=z):=by
   intro xs;induction xs with
   |nil=>
    intro z i w l B
    have:z=[]:=qa.1 (by simp_all)
    subst this;refine⟨true,J8 ?_,Kc ?_,ah⟩<;>rw[dA w,aj]
   |cons x xs I=>intro z i w l B;cases z with
    |nil=>cases B
    |cons y z=>
     by_cases e:x=y
     .obtain⟨r,D,H,G⟩:=I _ _ (cg w) (cg l) (by simp_all);refine⟨r,J8 ?_,Kc ?_,G.trans (by simp_all)⟩<;>rw[cN w,ai,bN w,bN l,cond_neg (by simp_all),dF w af]
      .exact D
      omega
     .refine⟨false,J8 ?_,Kc ?_,by simp[e]⟩<;>rw[cN w,ai,bN w,bN l,cond_pos (by simp_all)]
  obtain⟨r,D,H,G⟩:=key p q 0 rfl rfl hl;simp_all[e445,e484]
 .refine⟨false,e445 ?_,e484 ?_,⟨λe=>by(cases e),λe=>absurd (by rw[e]) hl⟩⟩<;>grind
def VL {l:List Int} (hl:l.length<=1000000):f460 l=some l:=by refine gD ?_;refine mR ?_;have q:Nat.ble ((List.map (bU .i64) l).length *8) 140737488355328=true:=gp (by grind);show(bif Nat.ble _ _ then _ else _)=_;rw[q];rfl
def yS (P:List (List Int)) (n:Nat) (l:List bD):List dM:=
 l.filterMap λa=>if P.getD n []++[a.aV]=P.getD a.To.toNat [] then none else some ⟨P.getD a.To.toNat [],P.getD n []++[a.aV]⟩
def pQ (P:List (List Int)):Nat->List Node->List dM
 |_,[]=>[]
 |n,x::l=>yS P n x.cG++pQ P (n+1) l
def IN {P:List (List Int)} {n:Nat} (l:List bD):(yS P n l).length<=l.length:=xT _ _
def IP {P:List (List Int)}:∀(n:Nat) (l:List Node),(∀x∈l,x.cG.length<=12)->(pQ P n l).length<=12 *l.length
 |_,[],_=>by simp[pQ]
 |n,x::l,h=>by
  have w:=IN (P:=P) (n:=n) x.cG;have z:=h x ah;have B:=IP (P:=P) (n+1) l λy q=>h y (by simp[q])
  rw[pQ,cC,aT];omega
section
variable {T F:Nat} {f:FSt} (hf:Can T F f) (hl:Jb f) (hF:F<=1000)
include hf hl hF
theorem US:∃P,f415 f=some P/\f416 f=some P/\Fst f P/\f429 f=some (pQ P 0 f.au)/\f409 f=some (pQ P 0 f.au):=by
 have hn:=hl.n;obtain⟨P,p1,p2,Q⟩:=OF hf af hF;refine⟨P,p1,p2,Q,?_⟩;have D:∀i,i<f.au.length->P[i]? =some (P.getD i []):=λi hi=>by rw[bQ,aW (by rw[Q.len];omega)];rfl
 have inner:∀{i:Nat} {x:Node},f.au[i]? =some x->∀(xs:List bD) (k:Nat) (o:List dM),x.cG.drop k=xs->o.length+xs.length<=1000000->∀r,
   (CD P f.au (f.au.length:Int) ((i+1:Nat):Int) f (o++yS P i xs)=some r->CE P (i:Int) f.au (f.au.length:Int) (i:Int) x.cG (x.cG.length:Int) (k:Int) f o x=some r)/\
   (Cz P ((i+1:Nat):Int) f (o++yS P i xs)=some r->CA P (i:Int) x.cG (k:Int) f o=some r):=by
  intro i x G xs;have z:i<f.au.length:=(bp.1 G).1;have H:=aS G;have S:=hl.a x H;have U:=hf.ao H;have LA:=Q.ln i z;induction xs with
  |nil=>intro k o l _ r;refine⟨λB=>J6 ?_,λB=>J4 ?_⟩<;>rw[dA l,aj,cQ af]<;>simpa[yS] using B
  |cons a xs O=>
   intro k o l V r;have ha:=U.ok a (aS (dP l));obtain⟨t,ht⟩:=iZ ha.2.1;have W:t<f.au.length:=af;have htt:a.To.toNat=t:=af;have w:∀{R:Type} (K:List Int->Option R),bF P a.To K=K (P.getD t []):=λK=>by rw[ht,ff (D t W)]
   obtain⟨q,q1,q2,q3⟩:=c445 (p:=P.getD i []++[a.aV]) (q:=P.getD t []) (by rw[cC,iY];omega);have hk:=iL l;rw[aT] at V;cases q with
   |true=>
    have e:=q3.1 rfl;have N:yS P i (a::xs)=yS P i xs:=by unfold yS;rw[xJ,htt,ak e]
    rw[N];obtain⟨I,L⟩:=O (k+1) o (cg l) af r;refine⟨λB=>J6 ?_,λB=>J4 ?_⟩
    .rw[cN l,ai,bN l,ff (D i z),VL af,aI,cu _ af ah af,w,q2,aI,cond_neg (by rfl),cQ af];exact I B
    .rw[cN l,ai,ff (D i z),cu _ ah af af,bN l,cu _ (by rw[er];omega) ah af,bN l,w,er,q1,aI,cond_neg (by rfl),cQ af];exact L B
   |false=>
    have e:¬P.getD i []++[a.aV]=P.getD t []:=λe=>by have:=q3.2 e;cases this
    have N:yS P i (a::xs)=⟨P.getD t [],P.getD i []++[a.aV]⟩::yS P i xs:=by unfold yS;grind
    rw[N];obtain⟨I,L⟩:=O (k+1) (o++[⟨P.getD t [],P.getD i []++[a.aV]⟩]) (cg l) aX r;rw[eo] at I L;refine⟨λB=>J6 ?_,λB=>J4 ?_⟩
    .rw[cN l,ai,bN l,ff (D i z),VL af,aI,cu _ af ah af,w,q2,aI,cond_pos (by rfl),w,cu _ af ah af,cQ af];grind
    .rw[cN l,ai,ff (D i z),cu _ ah af af,bN l,cu _ (by grind) ah af,bN l,w,er,q1,aI,cond_pos (by rfl),bN l,w,cu _ af ah af,cQ af];grind
 have outer:∀(xs:List Node) (i:Nat) (o:List dM),f.au.drop i=xs->o.length+12 *xs.length<=1000000->
   CD P f.au (f.au.length:Int) (i:Int) f o=some (o++pQ P i xs)/\Cz P (i) f o=some (o++pQ P i xs):=by
  intro xs;induction xs with
  |nil=>intro i o l _;refine⟨Py ?_,Pq ?_⟩<;>rw[dA l]<;>simp[pQ]
  |cons x xs O=>
   intro i o l V;rw[aT] at V;have G:=dP l;have S:=hl.a x (aS G);have z1:=IN (P:=P) (n:=i) x.cG;obtain⟨I,L⟩:=O _ (o++yS P i x.cG) (cg l) (by grind);have N:o++pQ P i (x::xs)=o++yS P i x.cG++pQ P (i+1) xs:=by rw[pQ,eo]
   obtain⟨i1,i2⟩:=inner G x.cG 0 o rfl af (o++yS P i x.cG++pQ P (i+1) xs);refine⟨Py ?_,Pq ?_⟩<;>(rw[cN l,bN l];simp_all)
 obtain⟨I,L⟩:=outer _ 0 [] rfl aX;simp_all[e429,e409]
theorem L4 {P:List (List Int)} (B:Fst f P):∀s∈pQ P 0 f.au,∃i k,∃g,i<f.au.length/\(g,k)∈j9 f i/\s.A=P.getD k []/\s.B=P.getD i []++[g]/\s.A≠s.B/\wT f s.A=some k/\wT f s.B=some k/\¬s.B<+:s.A:=by
 have key:∀(xs) (i),f.au.drop i=xs->∀s∈pQ P i xs,∃i k,∃g,i<f.au.length/\(g,k)∈j9 f i/\s.A=P.getD k []/\s.B=P.getD i []++[g]/\s.A≠s.B:=by intro xs;induction xs with
  |nil=>intro i _ s l;cases l
  |cons x xs N=>
   intro i D s l;rw[pQ,bn] at l;rcases l with l|l
   .obtain⟨a,K,e⟩:=dR.1 l;split at e
    .cases e
    .rename_i q;cases e;have G:j9 f i=NB x:=by unfold j9;rw[dP D]
     exact⟨i,_,_,iL D,by rw[G];exact aA.2 ⟨a,K,rfl⟩,rfl,rfl,λh=>q h.symm⟩
   .exact N _ (cg D) s l
 intro s l;obtain⟨i,k,g,w,z,H,I,q⟩:=key _ 0 rfl s l;have L :=hf.bd i w _ z;refine⟨i,k,g,w,z,H,I,q,by rw[H];exact B.at_ k L,?_,λh=> ?_⟩
 .rw[I];exact uU.2 ⟨i,B.at_ i w,(qm (hf.x5 i)).2 z⟩
 .have O :=B.Ve i w _ z;exact q (h.eq_of_length (by grind)).symm
theorem Sb {P:List (List Int)} {i k:Nat} {g:Int} (H:i<f.au.length) (z:(g,k)∈j9 f i) (q:¬P.getD i []++[g]=P.getD k []):(⟨P.getD k [],P.getD i []++[g]⟩:dM)∈pQ P 0 f.au:=by
 have key:∀(xs) (j),f.au.drop j=xs->j<=i->(⟨P.getD k [],P.getD i []++[g]⟩)∈pQ P j xs:=by intro xs;induction xs with
  |nil=>intro j l D;have:=oz l;omega
  |cons x xs G=>
   intro j l D;rw[pQ,bn];by_cases e:j=i
   .subst e;left;have w:j9 f j=NB x:=by unfold j9;rw[dP l]
    rw[w] at z;obtain⟨a,B,e⟩:=aA.1 z;cases e;exact dR.2 ⟨a,B,az q⟩
   .exact .inr (G _ (cg l) af)
 simp_all
end
end Go.Proofs.YthppjmoncapdfaaGreatDoor.cl.pf
namespace Go.Proofs.YthppjmoncapdfaaGreatDoor.cl.pf
open Go Go.AM
structure PT (T F:Nat) (f:FSt) (L:List FSt):Prop where
 len:L.length<=200
 can:∀p∈L,Can T F p
 low:∀sb,TO T sb->∀p∈L,Le sb p f
 all:∀sb,TO T sb->∀C,Can T F C->(∀p∈L,Le sb p C)->Le sb f C
 cov:∃P:List (List Int),P.length<=12/\∀p∈L,Sk p P
def NQ:Prop:=∀n:Nat,n<=64->∃h,f428 (n:Int)=some h/\HM h 1 I6
def VJ (t:Int):f425 t=some ⟨[⟨t,[]⟩]⟩:=e425 rfl
def c414 (t:Int):f414 t=some ⟨[⟨t,[]⟩]⟩:=e414 rfl
def x6 {T F:Nat} {f:FSt} (hf:Can T F f):∀{q:List Int} {i k:Nat},wq (mC f) i q=some k->i<f.au.length->∀g∈q,0<=g/\g<(F:Int)
 |[],_,_,_,_,g,l=>by cases l
 |x::q,i,k,h,w,g,l=>by simp only[wq] at h;cases e:NC ((mC f).sc i) x with
  |none=>rw[e] at h;cases h
  |some j=>
   rw[e] at h;have z:=(qm (hf.x5 i)).1 e;rcases aD.1 l with rfl|l
   .exact hf.go.ft i w _ z
   .exact x6 hf h (hf.bd i w _ z) g l
def c427 {T F:Nat} {f:FSt} (hf:Can T F f) (hl:Jb f) (hF:F<=64):∃n:Nat,n<=64/\f427 f=some (n:Int):=by
 have inner:∀{i:Nat} {x:Node},f.au[i]? =some x->∀(xs:List bD) (k n:Nat),x.cG.drop k=xs->n<=64->(∀m:Nat,m<=64->∃l:Nat,l<=64/\CC (m:Int) f.au (f.au.length:Int) ((i+1:Nat):Int) f=some (l:Int))->
   ∃l:Nat,l<=64/\F1 (n:Int) f.au (f.au.length:Int) (i:Int) x.cG (x.cG.length:Int) (k:Int) f x=some (l:Int):=by
  intro i x K xs;have D:=aS K;have O:=(bp.1 K).1;have N:=hl.a x D;have hn:=hl.n;induction xs with
  |nil=>intro k n q w H;obtain⟨l,z,B⟩:=H n w;refine⟨l,z,Pw ?_⟩;rw[dA q,aj,cQ af];exact B
  |cons a xs I=>
   intro k n q w H;have L:=((hf.ao D).ok a (aS (dP q))).1;have Q:=iL q;obtain⟨m,G⟩:=iZ L.1;have P:IntKind.wrap .i64 (a.aV+1)=((m+1:Nat):Int):=by rw[G];exact cQ af
   obtain⟨l,z,B⟩:=I (k+1) (if m+1>n then m+1 else n) (cg q) (by split<;>omega) H;refine⟨l,z,Pw ?_⟩;rw[cN q,ai,bN q,P,cQ af]
   have:(if((m+1:Nat):Int)>(n:Int) then((m+1:Nat):Int) else(n:Int))=((if m+1>n then m+1 else n:Nat):Int):=by
    by_cases h:m+1>n
    .rw[ak h,ak af]
    .rw[az h,az af]
   rw[this];exact B
 have outer:∀(xs:List Node) (i n:Nat),f.au.drop i=xs->n<=64->∃l:Nat,l<=64/\CC (n:Int) f.au (f.au.length:Int) (i:Int) f=some (l:Int):=by intro xs;induction xs with
  |nil=>intro i n q hn;refine⟨n,hn,Pv ?_⟩;rw[dA q,aj]
  |cons x xs I=>
   intro i n q hn;obtain⟨l,z,B⟩:=inner (dP q) x.cG 0 n rfl hn λm G=>I (i+1) m (cg q) G
   refine⟨l,z,Pv ?_⟩;rw[cN q,ai,bN q];exact B
 obtain⟨l,z,B⟩:=outer f.au 0 0 rfl af;exact⟨l,z,e427 B⟩
section
variable {T F:Nat} {f:FSt} (hf:Can T F f) (hl:Jb f) (hF:F<=64)
include hf hl hF
theorem R5 {P:List (List Int)} (w:Fst f P) {h:dr} (H:HM h 1 I6):∀(xs:List dM) (i:Nat),(pQ P 0 f.au).drop i=xs->∃ss:List FSt,ss.length=xs.length/\
  (∀o:List FSt,o.length+xs.length<=1000->i+xs.length<=1000->FQ (pQ P 0 f.au) ((pQ P 0 f.au).length:Int) (i:Int) o h=some (o++ss)/\FU (pQ P 0 f.au) (i:Int) o=some (o++ss))/\
  (∀p∈ss,∃s∈xs,Nt F s.A s.B p/\Sk p P)/\∀s∈xs,∃p∈ss,Nt F s.A s.B p:=by
 have hn:=hl.n;intro xs;induction xs with
 |nil=>intro i l;refine⟨[],rfl,λo ho W=>⟨Pm ?_,Po ?_⟩,λp hp=>by(cases hp),λs O=>by(cases O)⟩<;>rw[dA l,aj,eT]
 |cons s xs ih=>
  intro i l;have O:=aS (dP l);obtain⟨a,k,g,K,hm,S,D,hne,qA,qB,N⟩:=L4 hf hl af w s O;have L:k<f.au.length:=hf.bd a K _ hm;have U:=x6 hf qA hf.ne;have V:=x6 hf qB hf.ne;have lA:s.A.length<=12:=by rw[S];have:=w.ln k L;omega
  have lB:s.B.length<=13:=by rw[D,cC,iY];have:=w.ln a K;omega
  have I:s.B≠[]:=by rw[D];simp
  obtain⟨p,p1,p2,p3⟩:=c438 U V H af af af;obtain⟨q,q1,R⟩:=c439 U V af af af I N;have e:=R.uniq p2;subst e
  have B:Sk q P:=p3 P (λj _=>by
   have:s.A∈P:=by rw[S];have:=bH (l:=P) (n:=k) (by rw[w.len];exact L);rw[bQ,aW (by rw[w.len];exact L)];exact this
   exact w.pre _ this j) λj hj=>by
   rw[D,cC,iY] at hj;rw[D,xX af];refine w.pre _ ?_ j;rw[bQ,aW (by rw[w.len];exact K)];exact bH _
  obtain⟨ss,s1,s2,s3,s4⟩:=ih (i+1) (cg l);refine⟨q::ss,by simp[s1],λo ho W=> ?_,λr z=> ?_,λr z=> ?_⟩
  .rw[aT] at ho W;obtain⟨r1,r2⟩:=s2 (o++[q]) aX af;rw[eo] at r1 r2;refine⟨Pm ?_,Po ?_⟩
   .rw[cN l,ai,bN l,VJ,aI,p1,aI,cu _ af ah af,cQ af];exact r1
   .rw[cN l,ai,bN l,bN l,q1,aI,cu _ af ah af,cQ af];exact r2
  .rcases aD.1 z with rfl|z
   .exact⟨s,by simp,R,B⟩
   .obtain⟨t,Q,G⟩:=s3 r z;exact⟨t,by simp[Q],G⟩
  .rcases aD.1 z with rfl|z
   .exact⟨q,by simp,R⟩
   .obtain⟨t,Q,G⟩:=s4 r z;exact⟨t,by simp[Q],G⟩
theorem Qn (HT:NQ):∃L S,f400 f=some L/\f401 f=some L/\PT T F f L/\f409 f=some S/\L.length=f.au.length+S.length/\S.length<=200:=by
 have hn:=hl.n;have h0:=hf.ne;obtain⟨P,p1,p2,B,s1,s2⟩:=US hf hl af;obtain⟨n,n1,n2⟩:=c427 hf hl hF;obtain⟨h,h1,H⟩:=HT n n1;have z1:(pQ P 0 f.au).length<=12 *f.au.length:=IP 0 _ hl.a;obtain⟨ss,q1,q2,q3,q4⟩:=R5 hf hl hF B H (pQ P 0 f.au) 0 rfl;have hg:∀i,i<f.au.length->P[i]? =some (P.getD i []):=λi l=>by rw[bQ,aW (by rw[B.len];exact l)];rfl
 have hmem:∀i,i<f.au.length->P.getD i []∈P:=λi l=>aS (hg i l)
 let I:Nat->FSt:=λi=>mK (P.getD i []) (qT f i)
 have key:∀(k i:Nat),f.au.length=i+k->FP P (P.length:Int) (i:Int) f ((List.range i).map I)=some ((List.range f.au.length).map I++ss)/\FR P (i:Int) f ((List.range i).map I)=some ((List.range f.au.length).map I++ss):=by intro k;induction k with
  |zero=>
   intro i l;have e:i=f.au.length:=af;subst e;obtain⟨V,W⟩:=q2 ((List.range f.au.length).map I) aX af;have LA:=B.len;refine⟨Pk ?_,Pn ?_⟩
   .rw[cond_neg (by rw[bM];omega),n2,aI,h1,aI,s1,aI];exact V
   .rw[cond_neg (by rw[bM];omega),s2,aI];exact W
  |succ k ih=>
   intro i l;have w:i<f.au.length:=af;have LA:=B.len;have hil:=B.ln i w;obtain⟨V,W⟩:=ih (i+1) af;have et:qT f i=f.au[i].ef:=vD w;have es:(List.range (i+1)).map I=(List.range i).map I++[mK (P.getD i []) f.au[i].ef]:=by rw[nq,bw,<-et];rfl
   rw[es] at V W;refine⟨Pk ?_,Pn ?_⟩
   .rw[cond_pos (by rw[bG];omega),ff (hg i w),eY w,VJ,aI,Tx af,aI,cu _ aX ah af,cQ af];exact V
   .rw[cond_pos (by rw[bG];omega),ff (hg i w),eY w,c414,aI,c430 af,aI,cu _ aX ah af,cQ af];exact W
 obtain⟨V,W⟩:=key f.au.length 0 af;have N:1<=T:=by have:=hf.go.tp 0 h0;omega
 have O:∀i,i<f.au.length->(∀g∈P.getD i [],0<=g/\g<(F:Int))/\0<=qT f i/\qT f i<(T:Int):=λi l=>⟨x6 hf (B.at_ i l) h0,hf.go.tp i l⟩
 refine⟨(List.range f.au.length).map I++ss,_,e400 ?_,e401 ?_,⟨?_,λp z=> ?_,λsb U p z=> ?_,λsb U C hC K=> ?_,⟨P,by rw[B.len];omega,λp z=> ?_⟩⟩,s2,?_,af⟩
 .rw[p1,aI];exact V
 .rw[p2,aI];exact W
 .rw[cC,aR,List.length_range];omega
 .rcases bn.1 z with z|z
  .obtain⟨i,l,rfl⟩:=aA.1 z;have:=O i (fC.1 l);exact oy af this.1 this.2
  .obtain⟨s,_,D,_⟩:=q3 p z;exact D.can.up N
 .rcases bn.1 z with z|z
  .obtain⟨i,l,rfl⟩:=aA.1 z;have l:=fC.1 l;have:=O i l;exact(Oe U this.1 this.2 hf).2 ⟨i,B.at_ i l,U.refl this.2.1 this.2.2⟩
  .obtain⟨s,D,hs2,_⟩:=q3 p z;obtain⟨a,k,g,ha,hm,eA,eB,hne,qA,qB,hnp⟩:=L4 hf hl af B s D;exact(hs2.le U N hf).2 ⟨k,qA,qB⟩
 .have Vj:∀i,i<f.au.length->∃k,wT C (P.getD i [])=some k/\sb (qT f i) (qT C k):=λi l=>by
   have:=O i l;exact(Oe U this.1 this.2 hC).1 (K _ (eS _ (aA.2 ⟨i,fC.2 l,rfl⟩)))
  refine⟨λi=>(wT C (P.getD i [])).getD 0,?_,λi l=> ?_⟩
  .show(wT C (P.getD 0 [])).getD 0=0;rw[B.zero];rfl
  .have w:=hf.QX l;obtain⟨k,hk,D⟩:=Vj i w;refine⟨?_,λp z=> ?_⟩
   .show sb (qT f i) (qT C ((wT C (P.getD i [])).getD 0));rw[hk];exact D
   .have hp2:p.2<f.au.length:=hf.bd i w _ z;obtain⟨k2,Q,_⟩:=Vj p.2 hp2;show(p.1,(wT C (P.getD p.2 [])).getD 0)∈j9 C ((wT C (P.getD i [])).getD 0);rw[hk,Q];have R:wT C (P.getD i []++[p.1])=some k2:=by
     by_cases e:P.getD i []++[p.1]=P.getD p.2 []
     .rw[e];exact Q
     .obtain⟨q,hq,D⟩:=q4 _ (Sb hf hl af w z e);obtain⟨j,G,j2⟩:=(D.le U N hC).1 (K q (qb _ hq));have G:wT C (P.getD p.2 [])=some j:=G;rw[Q] at G;cases G;exact j2
    obtain⟨j,G,j2⟩:=uU.1 R;have G:wT C (P.getD i [])=some j:=G;rw[hk] at G;cases G;exact(qm (hC.x5 k)).1 j2
 .rcases bn.1 z with z|z
  .obtain⟨i,l,rfl⟩:=aA.1 z;exact Rs λj _=>B.pre _ (hmem i (fC.1 l)) j
  .obtain⟨s,_,_,D⟩:=q3 p z;exact D
 .rw[cC,aR,List.length_range,q1]
end
