/- First paths (both walks); the same sharings in the program a. -/
import Derived.Test.YthppjmoncapdfaaGreatDoorClXq
set_option linter.all false
open List (replicate)
namespace Go.Proofs.YthppjmoncapdfaaGreatDoor.cl.pf
open Go Go.AM
def rdG {q R:Type} {l:List q} {i:Nat} {x:q} (h:l[i]? =some x) (k:q->Option R):check (0<=(i:Int)/\Int.toNat (i:Int)<l.length) (ek l (Int.toNat (i:Int)) k)=k x:=by grind[uP,gF]
def gN (f:FSt):List zy:=f.aj.map λx=>(x.cQ,x.bD.map λa=>(a.aT,a.To))
def F7:∀l:List Node,vP (l.map Node.enc)=some (l.map λx=>(x.cQ,x.bD.map λa=>(a.aT,a.To)))
 |[]=>rfl
 |x::l=>by
  rw[aS,aS]
  show(match uL _,vP _ with
   |some a,some r=>some _
   |_,_=>none)=_
  rw[BU,F7 l]
def wW:∀(l:List Int) (w out:List (List Int)) (t:Int) (p:List Int),l.length=w.length->DL out (l++[t]) (w++[p])=(DL out l w).set t.toNat p
 |[],[],out,t,p,_=>rfl
 |n::l,q::w,out,t,p,h=>wW l _ _ t p (by simp_all)
 |[],_::_,_,_,_,h=>by cases h
 |_::_,[],_,_,_,h=>by cases h
abbrev Qs:=List (Nat×List Int)
def GH (l:Qs):List Int:=l.map λa=>(a.1:Int)
def Pv (l:Qs):List (List Int):=l.map (·.2)
structure BI (f:FSt) (i:Nat) (sn:List Bool) (qs:Qs) (out:List (List Int)):Prop where
 nd:(qs.map (·.1)).Nodup
 lt:∀a∈qs,a.1<f.aj.length
 sl:sn.length=f.aj.length
 se:∀x,x<f.aj.length->(sn.getD x false=true↔x∈qs.map (·.1))
 hd:qs[0]? =some (0,[])
 at_:∀a∈qs,zN f a.2=some a.1
 ln:∀(j:Nat) a,qs[j]? =some a->a.2.length<=j
 pr:∀a∈qs,a.2=[]\/∃b∈qs,∃g,a.2=b.2++[g]
 mo:qs.Pairwise λa b=>a.2.length<=b.2.length
 up:∀b,qs[i]? =some b->∀a∈qs,a.2.length<=b.2.length+1
 cl:∀(j:Nat) b,j<i->qs[j]? =some b->∀p∈iY f b.1,∃a∈qs,a.1=p.2/\a.2.length<=b.2.length+1
 oe:out=DL (replicate f.aj.length []) (GH qs) (Pv qs)
 ol:out.length=f.aj.length
 oa:∀a∈qs,out[a.1]? =some a.2
def BI.le {f:FSt} {i:Nat} {z:List Bool} {l:Qs} {out:List (List Int)} (I:BI f i z l out):l.length<=f.aj.length:=by
 have:=vN I.nd λx w=>by obtain⟨a,q,rfl⟩:=aD.1 w;exact I.lt a q
 simp_all
def BI.snoc {T F:Nat} {f:FSt} (hf:Can T F f) {i:Nat} {N:List Bool} {q:Qs} {out:List (List Int)} (I:BI f i N q out) {b:Nat×List Int} (z:q[i]? =some b) {g:Int} {t:Nat} (K:(g,t)∈iY f b.1) (H:t∉q.map (·.1)):
  BI f i (N.set t true) (q++[(t,b.2++[g])]) (out.set t (b.2++[g])):=by
 have D :=(bF.1 z).1;have B:=aI z;have P :=hf.bd _ (I.lt b B) _ K;refine⟨?_,λa l=> ?_,by rw[fM];exact I.sl,λx L=> ?_,?_,λa l=> ?_,λj a l=> ?_,λa l=> ?_,?_,λc w a l=> ?_,λj c G w p O=> ?_,?_,by rw[fM];exact I.ol,λa l=> ?_⟩
 .rw[bM,gW];refine⟨I.nd,by simp,λx L y Q=> ?_⟩;grind
 .rcases bw.1 l with l|l
  .exact I.lt a l
  simp_all
 .rw[eG];by_cases e:t=x
  .subst e;rw[az ⟨rfl,by rw[I.sl];omega⟩];simp
  .rw[au (λh=>e h.1),I.se x L];grind
 .rw[dD af];exact I.hd
 .rcases bw.1 l with l|l
  .exact I.at_ a l
  .simp at l;subst l;exact wL.2 ⟨_,I.at_ b B,(sQ (hf.yh _)).2 K⟩
 .by_cases G:j<q.length
  .rw[dD G] at l;exact I.ln j a l
  .have:=I.ln i b z;grind
 .rcases bw.1 l with l|l
  .rcases I.pr a l with h|⟨c,w,h⟩
   .simp_all
   grind
  grind
 .rw[oD];refine⟨I.mo,by simp,λa l c w=> ?_⟩;have:=I.up b z a l;simp_all
 .rw[dD D,z] at w;cases w;rcases bw.1 l with l|l
  .exact I.up b z a l
  simp_all
 .rw[dD af] at w;obtain⟨a,l,h⟩:=I.cl j c G w p O;grind
 .have:DL (replicate f.aj.length []) (GH (q++[(t,b.2++[g])])) (Pv (q++[(t,b.2++[g])]))=(DL (replicate f.aj.length []) (GH q) (Pv q)).set t (b.2++[g]):=by
   unfold GH Pv;rw[bM,bM];exact wW _ _ _ _ _ ah
  rw[this,<-I.oe]
 .rcases bw.1 l with l|l
  .have:t≠a.1:=λe=>H (e▸aD.2 ⟨a,l,rfl⟩)
   rw[gB this];exact I.oa a l
  .simp at l;subst l;rw[lq (by rw[I.ol];omega)]
def BI.next {f:FSt} {i:Nat} {D:List Bool} {l:Qs} {out:List (List Int)} (I:BI f i D l out) {b:Nat×List Int} (z:l[i]? =some b) (B:∀p∈iY f b.1,∃a∈l,a.1=p.2/\a.2.length<=b.2.length+1):BI f (i+1) D l out:=by
 refine { I with up:=λc B a G=> ?_,cl:=λj c N q=> ?_ }
 .have L:=I.up b z a G;obtain⟨H,e⟩:=bF.1 z;obtain⟨w,K⟩:=bF.1 B;have:=(mX.1 I.mo) i _ H w af;grind
 .by_cases e:j=i
  .grind
  .exact I.cl j c af q
section
variable {T F:Nat} {f:FSt} (hf:Can T F f) (hn:f.aj.length<=100000) (hF:F<=1000)
include hf hn hF
theorem bi_arcs {i:Nat} {x:Node} {b:Nat×List Int} (hx:f.aj[b.1]? =some x):∀(xs:List bY) (k:Nat) (B:List Bool) (l:Qs) (out:List (List Int)),x.bD.drop k=xs->BI f i B l out->l[i]? =some b->
  ∃D w q,Gx b.2 (xs.map λa=>(a.aT,a.To)) B (GH l) (Pv l)=some (D,GH w,Pv w)/\BI f i D w q/\(∃m,w=l++m)/\(∀a∈xs,∃c∈w,c.1=a.To.toNat/\c.2.length<=b.2.length+1)/\
   ∀r,J5 ((i+1:Nat):Int) f q D (GH w)=some r->Ek (i:Int) x.bD (k:Int) f out B (GH l)=some r:=by
 have P:=hf.ao (aI hx);have hal:=P.len;have hsc:iY f b.1=SE x:=by unfold iY;rw[hx]
 intro xs;induction xs with
 |nil=>intro k B l out z I G;refine⟨B,l,out,rfl,I,⟨[],ah⟩,λa ha=>by(cases ha),λr hr=>M6 ?_⟩;have:=I.le;have hil:i<l.length:=(bF.1 G).1;rw[bq z,aA,bp af];omega
 |cons a xs ih=>
  intro k B l out z I G;have hil:i<l.length:=(bF.1 G).1;have hN:=I.le;have hbm:=aI G;have O:=aI (bA z);have ha:=P.ok a O;obtain⟨t,R⟩:=eN ha.2.1;have K:t<f.aj.length:=af;have L:a.To.toNat=t:=af;have hs:(a.aT,t)∈iY f b.1:=by rw[hsc];exact aD.2 ⟨a,O,by rw[L]⟩
  have FR:t<B.length:=by rw[I.sl];exact K
  have H:B[t]? =some (B.getD t false):=by rw[aZ,aM FR];rfl
  have U:Gx b.2 ((a.aT,a.To)::xs.map λa=>(a.aT,a.To)) B (GH l) (Pv l)=bif B.getD t false then Gx b.2 (xs.map λa=>(a.aT,a.To)) B (GH l) (Pv l) else Gx b.2 (xs.map λa=>(a.aT,a.To)) (B.set t true) (GH l++[a.To]) (Pv l++[b.2++[a.aT]]):=by rw[Gx,L,H];simp only[];grind
  rw[aS,U];cases e:B.getD t false with
  |true=>
   obtain⟨D,w,q,S,V,⟨m,rfl⟩,g4,g5⟩:=ih (k+1) B l out (aH z) I G;refine⟨D,_,q,S,V,⟨m,rfl⟩,λc N=> ?_,λr hr=>M6 ?_⟩
   .rcases aG.1 N with rfl|N
    .obtain⟨d,Q,hd2⟩:=aD.1 ((I.se t K).1 e);exact⟨d,dV _ Q,by omega,I.up b G d Q⟩
    .exact g4 c N
   .rw[bf z,ai,aQ z,R,rdG H,e,cond_neg (by rfl),aX z af];simp_all
  |false=>
   have hno:t∉l.map (·.1):=λh=>by rw[(I.se t K).2 h] at e;cases e
   have I2:=I.snoc hf G hs hno;have en:GH (l++[(t,b.2++[a.aT])])=GH l++[a.To]:=by unfold GH;rw[bM,R];rfl
   have ep:Pv (l++[(t,b.2++[a.aT])])=Pv l++[b.2++[a.aT]]:=by unfold Pv;rw[bM];rfl
   obtain⟨D,w,q,S,V,⟨m,rfl⟩,g4,g5⟩:=ih (k+1) _ _ _ (aH z) I2 (by grind);rw[en,ep] at S;refine⟨D,_,q,S,V,⟨_,by rw[eT]⟩,λc N=> ?_,λr hr=>M6 ?_⟩
   .rcases aG.1 N with rfl|N
    .exact⟨(t,b.2++[c.aT]),by simp,L.symm,ah⟩
    simp_all
   .have Pt:=I.ln i b G;have h1:(GH l)[i]? =some (b.1:Int):=by unfold GH;rw[dF,G];rfl
    have h2:=I.oa b hbm;have h3:out[t]? =some (out.getD t []):=by rw[aZ,aM (by rw[I.ol];omega)];rfl
    have h4:(GH l).length=l.length:=by unfold GH;simp
    rw[bf z,aQ z,R,rdG H,aQ z,R,rdG H,aQ z,rdG h1,rdG h2,bU _ ah af af,aQ z,bU _ aF ah af,R,rdG h3,aQ z,bU _ af ah af,aX z af];simp_all
theorem bi_all:∀(k i:Nat) (z:List Bool) (l:Qs) (out:List (List Int)),f.aj.length<k+i->i<=l.length->BI f i z l out->
  ∃B w q,bfs (gN f) k i z (GH l) (Pv l)=some (GH w,Pv w)/\J5 (i:Int) f out z (GH l)=some q/\BI f w.length B w q:=by
 intro k;induction k with
 |zero=>intro i z l out h1 h2 I;have:=I.le;omega
 |succ k ih=>
  intro i z l out h1 h2 I;have hN:=I.le;have h4:(GH l).length=l.length:=by unfold GH;simp
  have h5:(Pv l).length=l.length:=by unfold Pv;simp
  by_cases hi:i=l.length
  .subst hi;refine⟨z,l,out,?_,abJ ?_,I⟩
   .rw[bfs,fB af]
   .rw[cond_neg (by rw[bP];omega)]
  .have H:i<l.length:=af;have D:l[i]? =some l[i]:=aM H;generalize l[i]=b at D;have N:=aI D;have G:=I.lt b N;have O:f.aj[b.1]? =some f.aj[b.1]:=aM G;obtain⟨B,w,q,U,V,⟨m,rfl⟩,g4,g5⟩:=bi_arcs hf hn hF O f.aj[b.1].bD 0 z l out rfl I D;have L:(l++m)[i]? =some b:=by rw[dD H];exact D
   have g3:=V.next L λp R=>by
    have:iY f b.1=SE f.aj[b.1]:=qu G
    rw[this] at R;obtain⟨a,ha,rfl⟩:=aD.1 R;exact g4 a ha
   obtain⟨Q,P,K,q1,q2,q3⟩:=ih (i+1) B _ q af (by rw[cS];omega) g3;have S:(GH l)[i]? =some (b.1:Int):=by unfold GH;rw[dF,D];rfl
   have n2:(Pv l)[i]? =some b.2:=by unfold Pv;rw[dF,D];rfl
   refine⟨Q,P,K,?_,abJ ?_,q3⟩
   .rw[bfs,S,n2];simp only[aR]
    have:(gN f)[b.1]? =some (f.aj[b.1].cQ,f.aj[b.1].bD.map λa=>(a.aT,a.To)):=by unfold gN;rw[dF,O];rfl
    rw[this];simp only[];rw[U];exact q1
   .rw[cond_pos (by rw[bH];omega),rdG S,ey O];exact g5 _ q2
structure Fst (f:FSt) (P:List (List Int)):Prop where
 len:P.length=f.aj.length
 at_:∀i,i<f.aj.length->zN f (P.getD i [])=some i
 zero:P.getD 0 []=[]
 ln:∀i,i<f.aj.length->(P.getD i []).length<=f.aj.length
 arc:∀i,i<f.aj.length->∀p∈iY f i,(P.getD p.2 []).length<=(P.getD i []).length+1
 pre:∀p∈P,∀j,p.take j∈P
theorem aal:∃P,f415 f=some P/\f416 f=some P/\Fst f P:=by
 have V:=hf.ne;have R:BI f 0 ((replicate f.aj.length false).set 0 true) [(0,[])] (replicate f.aj.length []):=by
  refine⟨ah,λa l=>by simp_all,by simp,λx N=> ?_,rfl,λa l=>by simp at l;subst l;rfl,λj a l=> ?_,λa l=>by simp_all,by simp,λc H a l=>by simp_all,λj c w=>absurd w af,?_,by simp,λa l=> ?_⟩
  .grind
  .grind
  .show _=(replicate f.aj.length []).set 0 [];simp
  .simp_all
 obtain⟨sn,G,P,S,U,I⟩:=bi_all hf hn hF (f.aj.length+1) 0 _ _ _ af ah R;have q:∀x,x<f.aj.length->∃a∈G,a.1=x:=by
  intro x N;have hr:=hf.Jq N
  have:x∈G.map (·.1):=by clear N;induction hr with
   |root=>exact aD.2 ⟨(0,[]),aI I.hd,rfl⟩
   |step _ B Q=>obtain⟨a,l,rfl⟩:=aD.1 Q;obtain⟨j,w⟩:=gE.1 l;obtain⟨c,H,e,_⟩:=I.cl j a (bF.1 w).1 w _ B;grind
  obtain⟨a,l,e⟩:=aD.1 this;exact⟨a,l,e⟩
 have O:∀a∈G,P.getD a.1 []=a.2:=λa l=>by rw[aZ,I.oa a l];rfl
 have hl:=I.le;refine⟨P,?_,e416 ?_,⟨I.ol,λi z=> ?_,?_,λi z=> ?_,λi z p B=> ?_,λp B j=> ?_⟩⟩
 .refine iV (E:=EN Q6) ?_;refine mL ?_
  show(match vP (f.aj.map Node.enc) with
   |some g=>bif Nat.blt 0 g.length&&Nat.ble g.length 1073741824 then(yA g).map λ(ps:List (List Int))=>(AV.dK 1 (ps.map λ(p:List Int)=>[AV.dK 1 (p.map λ(n:Int)=>[AV.int .i64 n])]),[]) else none
   |none=>none)=_
  rw[F7];have hg:(gN f).length=f.aj.length:=by unfold gN;simp
  have B:yA (gN f)=some P:=by
   unfold yA;rw[hg]
   have:bfs _ _ 0 _ [0] [[]]=some _:=S
   rw[this,I.oe];rfl
  have K:Nat.blt 0 (gN f).length=true:=ij af;have L:Nat.ble (gN f).length 1073741824=true:=ij af;show(bif Nat.blt 0 (gN f).length&&Nat.ble (gN f).length _ then(yA (gN f)).map _ else none)=_;rw[K,L,B];rfl
 .rw[bh ⟨af,by omega,by omega,af⟩,bh ⟨af,by omega,by omega,af⟩,bh ⟨af,by simp_all⟩,gF (x:=false) (by simp[V])];exact U
 .obtain⟨a,l,rfl⟩:=q i z;rw[O a l];exact I.at_ a l
 .exact O _ (aI I.hd)
 .obtain⟨a,l,rfl⟩:=q i z;obtain⟨j,w⟩:=gE.1 l;have:=I.ln j a w;grind
 .obtain⟨a,l,rfl⟩:=q i z;obtain⟨j,w⟩:=gE.1 l;obtain⟨c,H,e,h⟩:=I.cl j a (bF.1 w).1 w _ B;grind
 .have key:∀(n) (a),a∈G->a.2.length<=n->∃c∈G,a.2.take j=c.2:=by
   intro n;induction n with
   |zero=>grind
   |succ n Q=>
    intro a l h;by_cases w:a.2.length<=j
    .grind[List.take_of_length_le]
    .rcases I.pr a l with e|⟨b,hb,g,e⟩
     .simp_all
     grind
  obtain⟨i,z⟩:=gE.1 B;have D:=(bF.1 z).1;rw[I.ol] at D;obtain⟨a,l,rfl⟩:=q i D;rw[I.oa a l] at z;cases z;obtain⟨c,H,e⟩:=key _ a l (aU _);rw[e];exact aI (I.oa c H)
end
def c445 {p q:List Int} (K:p.length<=1000000):∃r,f445 p q=some r/\f484 p q=some r/\(r=true↔p=q):=by
 by_cases hl:p.length=q.length
 .have key:∀(xs z) (i),p.drop i=xs->q.drop i=z->xs.length=z.length->∃r,O8 p q (i)=some r/\Ph p q (p.length) (i)=some r/\(r=true↔xs=z):=by
   intro xs;induction xs with
   |nil=>
    intro z i w l B
    have:z=[]:=oK.1 (by simp_all)
    subst this;refine⟨true,Uc ?_,Ug ?_,ah⟩<;>rw[bq w,aA]
   |cons x xs I=>intro z i w l B;cases z with
    |nil=>cases B
    |cons y z=>
     by_cases e:x=y
     .obtain⟨r,D,H,G⟩:=I _ _ (aH w) (aH l) (by simp_all);refine⟨r,Uc ?_,Ug ?_,G.trans (by simp_all)⟩<;>rw[bf w,ai,aQ w,aQ l,cond_neg (by simp_all),aX w af]
      .exact D
      omega
     .refine⟨false,Uc ?_,Ug ?_,by simp[e]⟩<;>rw[bf w,ai,aQ w,aQ l,cond_pos (by simp_all)]
  obtain⟨r,D,H,G⟩:=key p q 0 rfl rfl hl;simp_all[e445,e484]
 .refine⟨false,e445 ?_,e484 ?_,⟨λe=>by(cases e),λe=>absurd (by rw[e]) hl⟩⟩<;>grind
def c460 {l:List Int} (hl:l.length<=1000000):f460 l=some l:=by refine iV ?_;refine mL ?_;have q:Nat.ble ((List.map (cg .i64) l).length *8) 140737488355328=true:=ij (by grind);show(bif Nat.ble _ _ then _ else _)=_;rw[q];rfl
def Ed (P:List (List Int)) (n:Nat) (l:List bY):List ff:=
 l.filterMap λa=>if P.getD n []++[a.aT]=P.getD a.To.toNat [] then none else some ⟨P.getD a.To.toNat [],P.getD n []++[a.aT]⟩
def tL (P:List (List Int)):Nat->List Node->List ff
 |_,[]=>[]
 |n,x::l=>Ed P n x.bD++tL P (n+1) l
def R8 {P:List (List Int)} {n:Nat} (l:List bY):(Ed P n l).length<=l.length:=xR _ _
def R9 {P:List (List Int)}:∀(n:Nat) (l:List Node),(∀x∈l,x.bD.length<=12)->(tL P n l).length<=12 *l.length
 |_,[],_=>by simp[tL]
 |n,x::l,h=>by
  have w:=R8 (P:=P) (n:=n) x.bD;have z:=h x ah;have B:=R9 (P:=P) (n+1) l λy q=>h y (by simp[q])
  rw[tL,cS,bg];omega
section
variable {T F:Nat} {f:FSt} (hf:Can T F f) (hl:PC f) (hF:F<=1000)
include hf hl hF
theorem shr_ok:∃P,f415 f=some P/\f416 f=some P/\Fst f P/\f429 f=some (tL P 0 f.aj)/\f409 f=some (tL P 0 f.aj):=by
 have hn:=hl.n;obtain⟨P,p1,p2,Q⟩:=aal hf af hF;refine⟨P,p1,p2,Q,?_⟩;have D:∀i,i<f.aj.length->P[i]? =some (P.getD i []):=λi hi=>by rw[aZ,aM (by rw[Q.len];omega)];rfl
 have inner:∀{i:Nat} {x:Node},f.aj[i]? =some x->∀(xs:List bY) (k:Nat) (o:List ff),x.bD.drop k=xs->o.length+xs.length<=1000000->∀r,
   (J7 P f.aj (f.aj.length:Int) ((i+1:Nat):Int) f (o++Ed P i xs)=some r->J8 P (i:Int) f.aj (f.aj.length:Int) (i:Int) x.bD (x.bD.length:Int) (k:Int) f o x=some r)/\
   (JZ P ((i+1:Nat):Int) f (o++Ed P i xs)=some r->J1 P (i:Int) x.bD (k:Int) f o=some r):=by
  intro i x G xs;have z:i<f.aj.length:=(bF.1 G).1;have H:=aI G;have S:=hl.a x H;have U:=hf.ao H;have QG:=Q.ln i z;induction xs with
  |nil=>intro k o l _ r;refine⟨λB=>Ua ?_,λB=>T6 ?_⟩<;>rw[bq l,aA,bp af]<;>simpa[Ed] using B
  |cons a xs O=>
   intro k o l V r;have ha:=U.ok a (aI (bA l));obtain⟨t,ht⟩:=eN ha.2.1;have htn:t<f.aj.length:=af;have htt:a.To.toNat=t:=af;have w:∀{R:Type} (K:List Int->Option R),aW P a.To K=K (P.getD t []):=λK=>by rw[ht,ey (D t htn)]
   obtain⟨q,q1,q2,q3⟩:=c445 (p:=P.getD i []++[a.aT]) (q:=P.getD t []) (by rw[cS,j4];omega);have hk:=c9 l;rw[bg] at V;cases q with
   |true=>
    have e:=q3.1 rfl;have N:Ed P i (a::xs)=Ed P i xs:=by unfold Ed;rw[CM,htt,az e]
    rw[N];obtain⟨I,L⟩:=O (k+1) o (aH l) af r;refine⟨λB=>Ua ?_,λB=>T6 ?_⟩
    .rw[bf l,ai,aQ l,ey (D i z),c460 af,ak,bU _ af ah af,w,q2,ak,cond_neg (by rfl),bp af];exact I B
    .rw[bf l,ai,ey (D i z),bU _ ah af af,aQ l,bU _ (by rw[dh];omega) ah af,aQ l,w,dh,q1,ak,cond_neg (by rfl),bp af];exact L B
   |false=>
    have e:¬P.getD i []++[a.aT]=P.getD t []:=λe=>by have:=q3.2 e;cases this
    have N:Ed P i (a::xs)=⟨P.getD t [],P.getD i []++[a.aT]⟩::Ed P i xs:=by unfold Ed;grind
    rw[N];obtain⟨I,L⟩:=O (k+1) (o++[⟨P.getD t [],P.getD i []++[a.aT]⟩]) (aH l) aF r;rw[eT] at I L;refine⟨λB=>Ua ?_,λB=>T6 ?_⟩
    .rw[bf l,ai,aQ l,ey (D i z),c460 af,ak,bU _ af ah af,w,q2,ak,cond_pos (by rfl),w,bU _ af ah af,bp af];grind
    .rw[bf l,ai,ey (D i z),bU _ ah af af,aQ l,bU _ (by grind) ah af,aQ l,w,dh,q1,ak,cond_pos (by rfl),aQ l,w,bU _ af ah af,bp af];grind
 have outer:∀(xs:List Node) (i:Nat) (o:List ff),f.aj.drop i=xs->o.length+12 *xs.length<=1000000->
   J7 P f.aj (f.aj.length:Int) (i:Int) f o=some (o++tL P i xs)/\JZ P (i) f o=some (o++tL P i xs):=by
  intro xs;induction xs with
  |nil=>intro i o l _;refine⟨abT ?_,abG ?_⟩<;>rw[bq l]<;>simp[tL]
  |cons x xs O=>
   intro i o l V;rw[bg] at V;have G:=bA l;have S:=hl.a x (aI G);have FR:=R8 (P:=P) (n:=i) x.bD;obtain⟨I,L⟩:=O _ (o++Ed P i x.bD) (aH l) (by grind);have N:o++tL P i (x::xs)=o++Ed P i x.bD++tL P (i+1) xs:=by rw[tL,eT]
   obtain⟨i1,i2⟩:=inner G x.bD 0 o rfl af (o++Ed P i x.bD++tL P (i+1) xs);refine⟨abT ?_,abG ?_⟩<;>(rw[bf l,aQ l];simp_all)
 obtain⟨I,L⟩:=outer _ 0 [] rfl aF;simp_all[e429,e409]
theorem WW {P:List (List Int)} (B:Fst f P):∀s∈tL P 0 f.aj,∃i k,∃g,i<f.aj.length/\(g,k)∈iY f i/\s.A=P.getD k []/\s.B=P.getD i []++[g]/\s.A≠s.B/\zN f s.A=some k/\zN f s.B=some k/\¬s.B<+:s.A:=by
 have key:∀(xs) (i),f.aj.drop i=xs->∀s∈tL P i xs,∃i k,∃g,i<f.aj.length/\(g,k)∈iY f i/\s.A=P.getD k []/\s.B=P.getD i []++[g]/\s.A≠s.B:=by intro xs;induction xs with
  |nil=>intro i _ s l;cases l
  |cons x xs N=>
   intro i D s l;rw[tL,bw] at l;rcases l with l|l
   .obtain⟨a,K,e⟩:=fo.1 l;split at e
    .cases e
    .rename_i q;cases e;have G:iY f i=SE x:=by unfold iY;rw[bA D]
     exact⟨i,_,_,c9 D,by rw[G];exact aD.2 ⟨a,K,rfl⟩,rfl,rfl,λh=>q h.symm⟩
   .exact N _ (aH D) s l
 intro s l;obtain⟨i,k,g,w,z,H,I,q⟩:=key _ 0 rfl s l;have L :=hf.bd i w _ z;refine⟨i,k,g,w,z,H,I,q,by rw[H];exact B.at_ k L,?_,λh=> ?_⟩
 .rw[I];exact wL.2 ⟨i,B.at_ i w,(sQ (hf.yh i)).2 z⟩
 .have O :=B.arc i w _ z;exact q (h.eq_of_length (by grind)).symm
theorem shr_all {P:List (List Int)} {i k:Nat} {g:Int} (H:i<f.aj.length) (z:(g,k)∈iY f i) (q:¬P.getD i []++[g]=P.getD k []):(⟨P.getD k [],P.getD i []++[g]⟩:ff)∈tL P 0 f.aj:=by
 have key:∀(xs) (j),f.aj.drop j=xs->j<=i->(⟨P.getD k [],P.getD i []++[g]⟩)∈tL P j xs:=by intro xs;induction xs with
  |nil=>intro j l D;have:=iq l;omega
  |cons x xs G=>
   intro j l D;rw[tL,bw];by_cases e:j=i
   .subst e;left;have w:iY f j=SE x:=by unfold iY;rw[bA l]
    rw[w] at z;obtain⟨a,B,e⟩:=aD.1 z;cases e;exact fo.2 ⟨a,B,au q⟩
   .exact .inr (G _ (aH l) af)
 simp_all
end
end Go.Proofs.YthppjmoncapdfaaGreatDoor.cl.pf
namespace Go.Proofs.YthppjmoncapdfaaGreatDoor.cl.pf
open Go Go.AM
structure PT (T F:Nat) (f:FSt) (L:List FSt):Prop where
 len:L.length<=200
 can:∀p∈L,Can T F p
 low:∀sb,TO T sb->∀p∈L,Le sb p f
 all:∀sb,TO T sb->∀C,Can T F C->(∀p∈L,Le sb p C)->Le sb f C
 Ds:∃P:List (List Int),P.length<=12/\∀p∈L,EB p P
def Vq:Prop:=∀n:Nat,n<=64->∃h,f428 (n:Int)=some h/\HM h 1 SD
def c425 (t:Int):f425 t=some ⟨[⟨t,[]⟩]⟩:=e425 rfl
def c414 (t:Int):f414 t=some ⟨[⟨t,[]⟩]⟩:=e414 rfl
def Df {T F:Nat} {f:FSt} (hf:Can T F f):∀{q:List Int} {i k:Nat},AU (mJ f) i q=some k->i<f.aj.length->∀g∈q,0<=g/\g<(F:Int)
 |[],_,_,_,_,g,l=>by cases l
 |x::q,i,k,h,w,g,l=>by simp only[AU] at h;cases e:zo ((mJ f).sc i) x with
  |none=>rw[e] at h;cases h
  |some j=>
   rw[e] at h;have z:=(sQ (hf.yh i)).1 e;rcases aG.1 l with rfl|l
   .exact hf.go.ft i w _ z
   .exact Df hf h (hf.bd i w _ z) g l
def c427 {T F:Nat} {f:FSt} (hf:Can T F f) (hl:PC f) (hF:F<=64):∃n:Nat,n<=64/\f427 f=some (n:Int):=by
 have inner:∀{i:Nat} {x:Node},f.aj[i]? =some x->∀(xs:List bY) (k n:Nat),x.bD.drop k=xs->n<=64->(∀m:Nat,m<=64->∃l:Nat,l<=64/\J6 (m:Int) f.aj (f.aj.length:Int) ((i+1:Nat):Int) f=some (l:Int))->
   ∃l:Nat,l<=64/\OW (n:Int) f.aj (f.aj.length:Int) (i:Int) x.bD (x.bD.length:Int) (k:Int) f x=some (l:Int):=by
  intro i x K xs;have D:=aI K;have O:=(bF.1 K).1;have N:=hl.a x D;have hn:=hl.n;induction xs with
  |nil=>intro k n q w H;obtain⟨l,z,B⟩:=H n w;refine⟨l,z,abR ?_⟩;rw[bq q,aA,bp af];exact B
  |cons a xs I=>
   intro k n q w H;have L:=((hf.ao D).ok a (aI (bA q))).1;have Q:=c9 q;obtain⟨m,G⟩:=eN L.1;have P:IntKind.wrap .i64 (a.aT+1)=((m+1:Nat):Int):=by rw[G];exact bp af
   obtain⟨l,z,B⟩:=I (k+1) (if m+1>n then m+1 else n) (aH q) (by split<;>omega) H;refine⟨l,z,abR ?_⟩;rw[bf q,ai,aQ q,P,bp af]
   have:(if((m+1:Nat):Int)>(n:Int) then((m+1:Nat):Int) else(n:Int))=((if m+1>n then m+1 else n:Nat):Int):=by
    by_cases h:m+1>n
    .rw[az h,az af]
    .rw[au h,au af]
   rw[this];exact B
 have outer:∀(xs:List Node) (i n:Nat),f.aj.drop i=xs->n<=64->∃l:Nat,l<=64/\J6 (n:Int) f.aj (f.aj.length:Int) (i:Int) f=some (l:Int):=by intro xs;induction xs with
  |nil=>intro i n q hn;refine⟨n,hn,abQ ?_⟩;rw[bq q,aA]
  |cons x xs I=>
   intro i n q hn;obtain⟨l,z,B⟩:=inner (bA q) x.bD 0 n rfl hn λm G=>I (i+1) m (aH q) G
   refine⟨l,z,abQ ?_⟩;rw[bf q,ai,aQ q];exact B
 obtain⟨l,z,B⟩:=outer f.aj 0 0 rfl af;exact⟨l,z,e427 B⟩
section
variable {T F:Nat} {f:FSt} (hf:Can T F f) (hl:PC f) (hF:F<=64)
include hf hl hF
theorem prt_shr {P:List (List Int)} (w:Fst f P) {h:bR} (H:HM h 1 SD):∀(xs:List ff) (i:Nat),(tL P 0 f.aj).drop i=xs->∃ss:List FSt,ss.length=xs.length/\
  (∀o:List FSt,o.length+xs.length<=1000->i+xs.length<=1000->OG (tL P 0 f.aj) ((tL P 0 f.aj).length:Int) (i:Int) o h=some (o++ss)/\OI (tL P 0 f.aj) (i:Int) o=some (o++ss))/\
  (∀p∈ss,∃s∈xs,YV F s.A s.B p/\EB p P)/\∀s∈xs,∃p∈ss,YV F s.A s.B p:=by
 have hn:=hl.n;intro xs;induction xs with
 |nil=>intro i l;refine⟨[],rfl,λo ho hi=>⟨abB ?_,abD ?_⟩,λp hp=>by(cases hp),λs O=>by(cases O)⟩<;>rw[bq l,aA,e7]
 |cons s xs ih=>
  intro i l;have O:=aI (bA l);obtain⟨a,k,g,K,hm,S,D,hne,qA,qB,N⟩:=WW hf hl af w s O;have L:k<f.aj.length:=hf.bd a K _ hm;have U:=Df hf qA hf.ne;have V:=Df hf qB hf.ne;have lA:s.A.length<=12:=by rw[S];have:=w.ln k L;omega
  have lB:s.B.length<=13:=by rw[D,cS,j4];have:=w.ln a K;omega
  have I:s.B≠[]:=by rw[D];simp
  obtain⟨p,p1,p2,p3⟩:=c438 U V H af af af;obtain⟨q,q1,R⟩:=c439 U V af af af I N;have e:=R.uniq p2;subst e
  have B:EB q P:=p3 P (λj _=>by
   have:s.A∈P:=by rw[S];have:=br (l:=P) (n:=k) (by rw[w.len];exact L);rw[aZ,aM (by rw[w.len];exact L)];exact this
   exact w.pre _ this j) λj hj=>by
   rw[D,cS,j4] at hj;rw[D,xX af];refine w.pre _ ?_ j;rw[aZ,aM (by rw[w.len];exact K)];exact br _
  obtain⟨ss,s1,s2,s3,s4⟩:=ih (i+1) (aH l);refine⟨q::ss,by simp[s1],λo ho hi=> ?_,λr z=> ?_,λr z=> ?_⟩
  .rw[bg] at ho hi;obtain⟨r1,r2⟩:=s2 (o++[q]) aF af;rw[eT] at r1 r2;refine⟨abB ?_,abD ?_⟩
   .rw[bf l,ai,aQ l,c425,ak,p1,ak,bU _ af ah af,bp af];exact r1
   .rw[bf l,ai,aQ l,aQ l,q1,ak,bU _ af ah af,bp af];exact r2
  .rcases aG.1 z with rfl|z
   .exact⟨s,by simp,R,B⟩
   .obtain⟨t,Q,G⟩:=s3 r z;exact⟨t,by simp[Q],G⟩
  .rcases aG.1 z with rfl|z
   .exact⟨q,by simp,R⟩
   .obtain⟨t,Q,G⟩:=s4 r z;exact⟨t,by simp[Q],G⟩
theorem RD (HT:Vq):∃L S,f400 f=some L/\f401 f=some L/\PT T F f L/\f409 f=some S/\L.length=f.aj.length+S.length/\S.length<=200:=by
 have hn:=hl.n;have h0:=hf.ne;obtain⟨P,p1,p2,B,s1,s2⟩:=shr_ok hf hl af;obtain⟨n,n1,n2⟩:=c427 hf hl hF;obtain⟨h,h1,H⟩:=HT n n1;have FR:(tL P 0 f.aj).length<=12 *f.aj.length:=R9 0 _ hl.a;obtain⟨ss,q1,q2,q3,q4⟩:=prt_shr hf hl hF B H (tL P 0 f.aj) 0 rfl;have hg:∀i,i<f.aj.length->P[i]? =some (P.getD i []):=λi l=>by rw[aZ,aM (by rw[B.len];exact l)];rfl
 have hmem:∀i,i<f.aj.length->P.getD i []∈P:=λi l=>aI (hg i l)
 let I:Nat->FSt:=λi=>qE (P.getD i []) (ny f i)
 have key:∀(k i:Nat),f.aj.length=i+k->OF P (P.length:Int) (i:Int) f ((List.range i).map I)=some ((List.range f.aj.length).map I++ss)/\OH P (i:Int) f ((List.range i).map I)=some ((List.range f.aj.length).map I++ss):=by intro k;induction k with
  |zero=>
   intro i l;have e:i=f.aj.length:=af;subst e;obtain⟨V,r2⟩:=q2 ((List.range f.aj.length).map I) aF af;have QG:=B.len;refine⟨abA ?_,abC ?_⟩
   .rw[cond_neg (by rw[bP];omega),n2,ak,h1,ak,s1,ak];exact V
   .rw[cond_neg (by rw[bP];omega),s2,ak];exact r2
  |succ k ih=>
   intro i l;have w:i<f.aj.length:=af;have QG:=B.len;have hil:=B.ln i w;obtain⟨V,r2⟩:=ih (i+1) af;have et:ny f i=f.aj[i].cQ:=ox w;have es:(List.range (i+1)).map I=(List.range i).map I++[qE (P.getD i []) f.aj[i].cQ]:=by rw[iP,bM,<-et];rfl
   rw[es] at V r2;refine⟨abA ?_,abC ?_⟩
   .rw[cond_pos (by rw[bH];omega),ey (hg i w),bS w,c425,ak,c426 af,ak,bU _ aF ah af,bp af];exact V
   .rw[cond_pos (by rw[bH];omega),ey (hg i w),bS w,c414,ak,c430 af,ak,bU _ aF ah af,bp af];exact r2
 obtain⟨V,r2⟩:=key f.aj.length 0 af;have N:1<=T:=by have:=hf.go.tp 0 h0;omega
 have O:∀i,i<f.aj.length->(∀g∈P.getD i [],0<=g/\g<(F:Int))/\0<=ny f i/\ny f i<(T:Int):=λi l=>⟨Df hf (B.at_ i l) h0,hf.go.tp i l⟩
 refine⟨(List.range f.aj.length).map I++ss,_,e400 ?_,e401 ?_,⟨?_,λp z=> ?_,λsb U p z=> ?_,λsb U C hC K=> ?_,⟨P,by rw[B.len];omega,λp z=> ?_⟩⟩,s2,?_,af⟩
 .rw[p1,ak];exact V
 .rw[p2,ak];exact r2
 .rw[cS,aV,x6];omega
 .rcases bw.1 z with z|z
  .obtain⟨i,l,rfl⟩:=aD.1 z;have:=O i (eM.1 l);exact sE af this.1 this.2
  .obtain⟨s,_,D,_⟩:=q3 p z;exact D.can.up N
 .rcases bw.1 z with z|z
  .obtain⟨i,l,rfl⟩:=aD.1 z;have l:=eM.1 l;have:=O i l;exact(ZM U this.1 this.2 hf).2 ⟨i,B.at_ i l,U.refl this.2.1 this.2.2⟩
  .obtain⟨s,D,hs2,_⟩:=q3 p z;obtain⟨a,k,g,ha,hm,eA,eB,hne,qA,qB,hnp⟩:=WW hf hl af B s D;exact(hs2.le U N hf).2 ⟨k,qA,qB⟩
 .have hat:∀i,i<f.aj.length->∃k,zN C (P.getD i [])=some k/\sb (ny f i) (ny C k):=λi l=>by
   have:=O i l;exact(ZM U this.1 this.2 hC).1 (K _ (dV _ (aD.2 ⟨i,eM.2 l,rfl⟩)))
  refine⟨λi=>(zN C (P.getD i [])).getD 0,?_,λi l=> ?_⟩
  .show(zN C (P.getD 0 [])).getD 0=0;rw[B.zero];rfl
  .have w:=hf.RV l;obtain⟨k,hk,D⟩:=hat i w;refine⟨?_,λp z=> ?_⟩
   .show sb (ny f i) (ny C ((zN C (P.getD i [])).getD 0));rw[hk];exact D
   .have hp2:p.2<f.aj.length:=hf.bd i w _ z;obtain⟨k2,Q,_⟩:=hat p.2 hp2;show(p.1,(zN C (P.getD p.2 [])).getD 0)∈iY C ((zN C (P.getD i [])).getD 0);rw[hk,Q];have R:zN C (P.getD i []++[p.1])=some k2:=by
     by_cases e:P.getD i []++[p.1]=P.getD p.2 []
     .rw[e];exact Q
     .obtain⟨q,hq,D⟩:=q4 _ (shr_all hf hl af w z e);obtain⟨j,G,j2⟩:=(D.le U N hC).1 (K q (fN _ hq));have G:zN C (P.getD p.2 [])=some j:=G;rw[Q] at G;cases G;exact j2
    obtain⟨j,G,j2⟩:=wL.1 R;have G:zN C (P.getD i [])=some j:=G;rw[hk] at G;cases G;exact(sQ (hC.yh k)).1 j2
 .rcases bw.1 z with z|z
  .obtain⟨i,l,rfl⟩:=aD.1 z;exact chn_cov λj _=>B.pre _ (hmem i (eM.1 l)) j
  .obtain⟨s,_,_,D⟩:=q3 p z;exact D
 .rw[cS,aV,x6,q1]
end
