/- Unification by the least closed relation (the reference's). -/
import Derived.Test.YthppjmoncapdfaaGreatDoorClXi
set_option linter.all false
open List (replicate)
namespace Go.Proofs.YthppjmoncapdfaaGreatDoor.cl.pf
open Go Go.AM
section
variable {h:bR} {T:Nat} {sb:Int->Int->Prop} (H:HM h T sb) {l:List Node} (hn:l.length<=1000000) (htl:∀x∈l,0<=x.cQ/\x.cQ<(T:Int)) (hT0:0<T)
variable {cl:List Int} {rep:Nat->Nat} (vp:cl.length=l.length) (hc:∀x,x<l.length->cl.getD x 0=(rep x:Nat)) (rl:∀x,x<l.length->rep x<l.length) (rr:∀x,x<l.length->rep (rep x)=rep x)
structure TI (T:Nat) (sb:Int->Int->Prop) (l:List Node) (rep:Nat->Nat) (i:Nat) (tl:List Int):Prop where
 len:tl.length=l.length
 ok:∀c,c<l.length->rep c=c->(0<=tl.getD c 0/\tl.getD c 0<(T:Int))/\(∀x,x<i->rep x=c->sb ((lG l).ty x) (tl.getD c 0))/\∀u,0<=u->u<(T:Int)->(∀x,x<i->rep x=c->sb ((lG l).ty x) u)->sb (tl.getD c 0) u
theorem acu {x:Nat} (q:x<l.length):(lG l).ty x=l[x].cQ:=lC _
theorem IP {x:Nat} (q:x<l.length):(lG l).sc x=l[x].bD.map λa=>(a.aT,a.To.toNat):=by show List.map _ _=_;simp_all
include H hn htl vp hc rl rr
theorem h452_3:∀(k i:Nat) (tl:List Int),l.length=i+k->TI T sb l rep i tl->
  (∃G,TI T sb l rep l.length G/\∀res,Er l cl 0 G=some res->AF l cl (i:Int) h tl=some res)\/
  (AF l cl (i:Int) h tl=some ([],false)/\∃c,c<l.length/\∀u,0<=u->u<(T:Int)->(∀x,x<l.length->rep x=c->sb ((lG l).ty x) u)->False):=by
 intro k;induction k with
 |zero=>intro i tl hi I;have e:i=l.length:=af;subst e;refine .inl ⟨tl,I,λres hr=>Ud ?_⟩;grind
 |succ k ih=>
  intro i tl hi I;have q:i<l.length:=af;have K:=rl i q;have Q:∀{R:Type} (L:Int->Option R),aW cl (i:Int) L=L ((rep i:Nat):Int):=λL=>by rw[sF af];exact aK L (hc i q)
  obtain⟨o1,o2,o3⟩:=I.ok (rep i) K (rr i q);have hty:=htl _ (br q);have O:=acu q;rcases H.mt _ _ o1.1 o1.2 hty.1 hty.2 with⟨t,_,U,V,m4,m5⟩|⟨t,_,U,V⟩
  .have I2:TI T sb l rep (i+1) (tl.set (rep i) t):=by
    refine⟨by rw[fM];exact I.len,λc vp P=> ?_⟩;rw[eG];by_cases e:rep i=c
    .subst e;rw[az ⟨rfl,by rw[I.len];omega⟩];refine⟨H.to.rr V,λx hx w=> ?_,λu z D S=> ?_⟩
     .by_cases N:x=i
      .subst N;rw[O];exact m4
      .exact H.to.trans (o2 x af w) V
     grind
    .rw[au (λh=>e h.1)];obtain⟨q1,q2,q3⟩:=I.ok c vp P;refine⟨q1,λx hx w=> ?_,λu z D S=>q3 u z D λx hx w=>S x af w⟩;by_cases N:x=i
     .subst N;exact absurd w e
     .exact q2 x af w
   have step:∀r,AF l cl ((i+1)) h (tl.set (rep i) t)=some r->AF l cl (i) h tl=some r:=by intro r hr;refine Ud ?_;rw[cond_pos (by grind),Q,qH (by rw[I.len];omega),bS q,U,ak,cond_neg (by rfl),Q,qH (by rw[I.len];omega),bp af];exact hr
   rcases ih _ _ af I2 with⟨G,g1,g2⟩|⟨g1,g2⟩
   .grind
   simp_all
  .refine .inr ⟨Ud ?_,_,K,λu z D S=> ?_⟩
   .rw[cond_pos (by grind),Q,qH (by rw[I.len];omega),bS q,U,ak,cond_pos (by rfl)]
   grind
omit H htl in
theorem h452_10 {tl:List Int} (hl:tl.length=l.length):∀(k i:Nat) (s:List Int),l.length=i+k->s.length=l.length->(∀x,x<l.length->s.getD x 0=if x<i then tl.getD (rep x) 0 else tl.getD x 0)->
  ∃z,Er l cl (i:Int) s=some (z,true)/\z.length=l.length/\∀x,x<l.length->z.getD x 0=tl.getD (rep x) 0:=by
 intro k;induction k with
 |zero=>
  intro i s S K D;refine⟨s,Ws ?_,K,λx w=> ?_⟩
  .rw[cond_neg (by rw[bP];omega)]
  .rw[D x w,az af]
 |succ k V=>
  intro i s S K D;have q:i<l.length:=af;have I:=rl i q;have Q:∀{R:Type} (G:Int->Option R),aW cl (i:Int) G=G ((rep i:Nat):Int):=λG=>by rw[sF af];exact aK G (hc i q)
  have U:s.getD (rep i) 0=tl.getD (rep i) 0:=by rw[D _ I,rr i q];split<;>rfl
  obtain⟨z,N,O,P⟩:=V (i+1) (s.set i (tl.getD (rep i) 0)) af (by rw[fM];exact K) λx w=>by
   rw[eG];by_cases e:i=x
   .subst e;rw[az ⟨rfl,af⟩,az af]
   .rw[au (λh=>e h.1),D x w];by_cases L:x<i
    .rw[az L,az af]
    .rw[au L,au af]
  refine⟨z,Ws ?_,O,P⟩;rw[cond_pos (by rw[bH];omega),Q,qH af,U,qH af,aR,bp af];exact N
include hT0 in
theorem c452:(∃s,f452 h l cl=some (s,true)/\s.length=l.length/\∀c,c<l.length->(0<=s.getD c 0/\s.getD c 0<(T:Int))/\s.getD c 0=s.getD (rep c) 0/\sb ((lG l).ty c) (s.getD c 0)/\∀u,0<=u->u<(T:Int)->(∀x,x<l.length->rep x=rep c->sb ((lG l).ty x) u)->sb (s.getD c 0) u)\/
  (f452 h l cl=some ([],false)/\∃c,c<l.length/\∀u,0<=u->u<(T:Int)->(∀x,x<l.length->rep x=c->sb ((lG l).ty x) u)->False):=by
 have P:∀x,x<l.length->(replicate l.length (0:Int)).getD x 0=0:=λx z=>by rw[aZ,jr,az z];rfl
 have G:TI T sb l rep 0 (replicate l.length 0):=⟨ah,λc vp N=>by
  rw[P c vp]
  exact⟨⟨af,af⟩,λx z=>absurd z af,λu K L _=>H.to.top K L⟩⟩
 have pre:∀r,AF l cl 0 h (replicate l.length 0)=some r->f452 h l cl=some r:=λr O=>by refine e452 ?_;rw[bh ⟨af,by omega,by omega,af⟩,aR];exact O
 rcases h452_3 H hn htl vp hc rl rr l.length 0 _ af G with⟨tl,I,g⟩|⟨q,w⟩
 .obtain⟨s,q,w,D⟩:=h452_10 hn vp hc rl rr I.len l.length 0 tl af I.len (λx _=>by rw[au af]);refine .inl ⟨s,pre _ (g _ q),w,λc vp=> ?_⟩;obtain⟨Q,R,S⟩:=I.ok (rep c) (rl c vp) (rr c vp);rw[D c vp,D _ (rl c vp),rr c vp];exact⟨Q,rfl,R c vp rfl,S⟩
 .exact .inr ⟨pre _ q,w⟩
end
section
variable {l:List Node} {F:Nat} (hn:l.length<=1000000) (hF:F<=1000000) (hA:∀x∈l,AW F l.length x.bD)
variable {cl:List Int} {rep:Nat->Nat} (vp:cl.length=l.length) (hc:∀x,x<l.length->cl.getD x 0=(rep x:Nat)) (rl:∀x,x<l.length->rep x<l.length)
structure QI (l:List Node) (rep:Nat->Nat) (i k:Nat) (ys:List (List bY)):Prop where
 len:ys.length=l.length
 from_:∀c,c<l.length->∀a∈ys.getD c [],∃x y,l[x]? =some y/\rep x=c/\∃b∈y.bD,a=⟨b.aT,(rep b.To.toNat:Nat)⟩
 nd:∀c,c<l.length->((ys.getD c []).map (·.aT)).Nodup
 all:∀x y,l[x]? =some y->x<i->∀b∈y.bD,∃a∈ys.getD (rep x) [],a.aT=b.aT
 some_:∀y,l[i]? =some y->∀b∈y.bD.take k,∃a∈ys.getD (rep i) [],a.aT=b.aT
theorem HI {rQ:Node->List bY->Node}:∀(xs:List Node) (q:List (List bY)),xs.length=q.length->Bn rQ xs (q.map some)=some (List.zipWith rQ xs q)
 |[],[],_=>rfl
 |x::xs,y::q,h=>by have:=HI (rQ:=rQ) xs q (by simp_all);simp_all[Bn]
 |[],y::q,h=>by simp at h
 |x::xs,[],h=>by simp at h
theorem AT {R:Type} {rQ:Node->List bY->Node} {xs:List Node} {q:List (List bY)} (h:xs.length=q.length) (k:List Node->Option R):PG rQ xs (q.map some) k=k (List.zipWith rQ xs q):=by simp_all[PG,HI]
theorem E5 {R:Type} {q:List (List bY)} {i:Nat} (h:i<q.length) (k:List bY->List (Option (List bY))->Option R):RB (q.map some) i k=k (q.getD i []) ((q.map some).set i none):=by simp_all[RB]
abbrev Sn:Node->List bY->Node:=λx z=>{ x with bD:=z }
include hA rl in
theorem QI.aw {i k:Nat} {w:List (List bY)} (I:QI l rep i k w) {c:Nat} (vp:c<l.length):AW F l.length (w.getD c []):=by refine⟨I.nd c vp,λa D=> ?_⟩;obtain⟨x,y,q,K,b,G,rfl⟩:=I.from_ c vp a D;have z:=(hA y (aI q)).ok b G;refine⟨z.1,by show 0<=((rep b.To.toNat:Nat):Int);omega,?_⟩;have:=rl b.To.toNat af;show((rep b.To.toNat:Nat):Int)<_;omega
include hn hF hA vp hc rl
theorem h453_11 {D:List Node} (hnd:D.length=l.length) {root:Int} {o8:FSt} {i:Nat} {y:Node} (G:l[i]? =some y):∀(xs:List bY) (k:Nat) (w:List (List bY)),y.bD.drop k=xs->QI l rep i k w->
  ∃L,QI l rep (i+1) 0 L/\∀res,Bi l cl root ((i+1:Nat):Int) o8 D (L.map some)=some res->AG l cl root (i:Int) ((rep i:Nat):Int) (k:Int) o8 D (w.map some)=some res:=by
 have hil:i<l.length:=(bF.1 G).1;have Q:=rl i hil;have hyA:=hA y (aI G);have hyl:=hyA.len;intro xs;induction xs with
 |nil=>
  intro k w z I;refine⟨w,⟨I.len,I.from_,I.nd,λx S hx hlt b hb=> ?_,λS K b hb=>by cases hb⟩,λres hr=>IM ?_⟩
  .by_cases e:x=i
   .subst e;rw[G] at hx;cases hx;refine I.some_ y G b ?_;simp_all[gd,iq,z]
   .exact I.all x S hx af b hb
  .rw[ey G,bq z,aA,bp af];omega
 |cons b xs ih=>
  intro k w z I;have hb:=aI (bA z);have hbo:=hyA.ok b hb;obtain⟨t,ht⟩:=eN hbo.2.1;have htl:t<l.length:=af;have htt:b.To.toNat=t:=af;have hlt:=c9 z;have hyc:=(QI.aw hA rl I Q).len;have hz:(List.zipWith Sn D w)[rep i]? =some (Sn (D.getD (rep i) default) (w.getD (rep i) [])):=by rw[C6,aM (by omega:rep i<D.length),aM (by rw[I.len];omega:rep i<w.length),aZ,aZ,aM (by omega:rep i<D.length),aM (by rw[I.len];omega:rep i<w.length)];rfl
  cases e:fa (w.getD (rep i) []) b.aT with
  |some a=>
   obtain⟨ha1,ha2⟩:=A3 e
   have I2:QI l rep i (k+1) w:=⟨I.len,I.from_,I.nd,I.all,λS K U q=>by
    rw[G] at K;cases K;rw[cr,bA z] at q;rcases bw.1 q with q|q
    .exact I.some_ y G U q
    .simp at q;subst q;exact⟨a,ha1,ha2⟩⟩
   obtain⟨L,g1,g2⟩:=ih (k+1) w (aH z) I2;refine⟨L,g1,λres hr=>IM ?_⟩;rw[ey G,bf z,ai,ey G,aQ z,AT (by rw[hnd,I.len]),c476 hz (by show(w.getD (rep i) []).length<=_;omega),ak];show(bif !(fr (w.getD (rep i) []) b.aT).2 then _ else _)=_;unfold fr;rw[e,cond_neg (by rfl),aX z af];exact g2 res hr
  |none=>
   have hno:=MB e;have I2:QI l rep i (k+1) (w.set (rep i) (w.getD (rep i) []++[⟨b.aT,(rep t:Nat)⟩])):=by
    have O:rep i<w.length:=by rw[I.len];exact Q
    refine⟨by rw[fM];exact I.len,λc N a P=> ?_,λc N=> ?_,λx S hx hlt' U q=> ?_,λS K U q=> ?_⟩
    .rw[eG] at P;by_cases V:rep i=c
     .subst V;rw[az ⟨rfl,O⟩] at P;rcases bw.1 P with P|P
      .exact I.from_ _ Q a P
      grind
     .rw[au (λh=>V h.1)] at P;exact I.from_ c N a P
    .rw[eG];by_cases V:rep i=c
     .subst V;rw[az ⟨rfl,O⟩,bM,gW];refine⟨I.nd _ Q,by simp,λu hu v hv=> ?_⟩;grind
     .rw[au (λh=>V h.1)];exact I.nd c N
    .obtain⟨a,P,hf⟩:=I.all x S hx hlt' U q;grind
    .rw[G] at K;cases K;rw[eG,az ⟨rfl,O⟩];rw[cr,bA z] at q;rcases bw.1 q with q|q
     .obtain⟨a,P,hf⟩:=I.some_ y G U q;grind
     simp_all
   obtain⟨L,g1,g2⟩:=ih (k+1) _ (aH z) I2;refine⟨L,g1,λres hr=>IM ?_⟩;have hgt:∀{R:Type} (kk:Int->Option R),aW cl (t:Int) kk=kk ((rep t:Nat):Int):=λkk=>by rw[sF af];simp_all
   rw[ey G,bf z,ai,ey G,aQ z,AT (by rw[hnd,I.len]),c476 hz (by grind),ak];show(bif !(fr (w.getD (rep i) []) b.aT).2 then _ else _)=_;have hfr:(fr (w.getD (rep i) []) b.aT).2=false:=by unfold fr;rw[e]
   rw[uP af,aR,E5 (by grind),ht,hgt,bU _ af ah af,bh ⟨af,af⟩,bh (by grind),aX z af];simp_all[tH]
theorem h453_7 {nds:List Node} (q:nds.length=l.length) {root:Int} {o8:FSt}:∀(k i:Nat) (D:List (List bY)),l.length=i+k->QI l rep i 0 D->
  ∃G,QI l rep l.length 0 G/\∀res,(aW cl root λw=>Option.bind (f436 (FSt.mk (List.zipWith Sn nds G)) w) λz=>some z)=some res->Bi l cl root (i:Int) o8 nds (D.map some)=some res:=by
 intro k;induction k with
 |zero=>intro i D P I;have e:i=l.length:=af;subst e;refine⟨D,I,λres Q=>Wu ?_⟩;rw[cond_neg ah,AT (by rw[q,I.len])];omega
 |succ k S=>
  intro i D P I;have K:i<l.length:=af;obtain⟨U,N,g1⟩:=h453_11 hn hF hA vp hc rl q (root:=root) (o8:=o8) (aM K) _ 0 _ rfl I;obtain⟨V,O,g2⟩:=S _ _ af N;refine⟨_,O,λres Q=>Wu ?_⟩;have hg:∀{R:Type} (L:Int->Option R),aW cl (i) L=L ((rep i)):=λL=>by rw[sF af];simp_all
  grind
omit hF hA vp hc rl in
theorem h453_3 {q:List Int} (K:q.length=l.length) {root:Int} {D:FSt} {res:FSt} (z:Bi l cl root 0 D (q.map λt=>⟨t,[]⟩) ((replicate l.length []).map some)=some res):∀(k i:Nat),l.length=i+k->
  Es l cl q root (i:Int) D ((q.take i).map λt=>⟨t,[]⟩) (replicate i (some []))=some res:=by
 intro k;induction k with
 |zero=>intro i G;have e:i=l.length:=af;subst e;refine Wt ?_;rw[cond_neg (by rw[bP];omega),gd af];rw[oF] at z;exact z
 |succ k I=>intro i G;have w:i<q.length:=af;refine Wt ?_;rw[cond_pos (by rw[bH];omega),bS w,bU _ (by rw[aV,fI];omega) ah af,bp af];unfold tH;have:=I (i+1) af;rw[cr,aM w,mY,bM] at this;exact this
theorem c453 {q:List Int} (U:q.length=l.length) {root:Nat} (hr:root<l.length):∃g z,f453 l cl q (root:Int)=some (lM (CF g) l.length (rep root))/\g.aj.length=l.length/\QI l rep l.length 0 z/\(∀c,c<l.length->g.aj[c]? =some ⟨q.getD c 0,z.getD c []⟩):=by
 have V:QI l rep 0 0 (replicate l.length []):=by
  have hz:∀x,(replicate l.length ([]:List bY)).getD x []=[]:=λx=>by grind
  exact⟨ah,(λc _ a S=>by simp_all),(λc _=>by simp_all),(λx y _ P=>absurd P af),(λy _ b hb=>by cases hb)⟩
 obtain⟨z,I,g⟩:=h453_7 hn hF hA vp hc rl (nds:=q.map _) (by simp_all) l.length 0 _ af V;have L:(List.zipWith Sn (q.map λt=>(⟨t,[]⟩)) z).length=l.length:=by simp[U,I.len]
 have G:∀c,c<l.length->(List.zipWith Sn (q.map λt=>(⟨t,[]⟩)) z)[c]? =some ⟨q.getD c 0,z.getD c []⟩:=λc w=>by grind
 refine⟨_,z,?_,L,I,G⟩;refine e453 ?_;have O:L5 _:=λx P=>by
  obtain⟨c,D⟩:=gE.1 P;have w :=by have:=(bF.1 D).1;rw[L] at this;exact this
  rw[G c w] at D;cases D;have aw:=QI.aw hA rl I w;refine⟨dB aw.len hF,λa S=> ?_⟩;have:=(aw.ok a S).2;simp_all
 have N:∀{R:Type} (Q:Int->Option R),aW cl (root) Q=Q ((rep root)):=λQ=>by rw[sF af];simp_all
 have K:=g (lM (CF ⟨List.zipWith Sn (q.map λt=>⟨t,[]⟩) z⟩) l.length (rep root)) (by
  rw[N,c436 O (by simp_all) (by simp_all)]
  simp_all)
 exact h453_3 hn U K l.length 0 af
end
def quo_uni {T F:Nat} {sb:Int->Int->Prop} (hT:TO T sb) {l:List Node} {U:Gr} {W:List (Nat×Nat)} (hA:∀x∈l,AW F l.length x.bD) (us:∀x,x<l.length->U.sc x=(lG l).sc x) (ut:∀x,x<l.length->U.ty x=(lG l).ty x)
  {out ty:List Int} {ar:List (List bY)} {rep d:Nat->Nat} (J:JI 1 (AW F l.length) sbT (lG0 l) l.length W [] out ty ar rep d) {z:List Int}
  (hty:∀c,c<l.length->(0<=z.getD c 0/\z.getD c 0<(T:Int))/\z.getD c 0=z.getD (rep c) 0/\sb ((lG l).ty c) (z.getD c 0)/\∀u,0<=u->u<(T:Int)->(∀x,x<l.length->rep x=rep c->sb ((lG l).ty x) u)->sb (z.getD c 0) u)
  {g:FSt} {ys:List (List bY)} (I:QI l rep l.length 0 ys) (hg:∀c,c<l.length->g.aj[c]? =some ⟨z.getD c 0,ys.getD c []⟩):Uni T F sb U l.length W (CF g) rep:=by
 have R:∀c,c<l.length->Cv g c=(Gn (ys.getD c [])).map λa=>(a.aT,a.To.toNat):=λc vp=>by unfold Cv;rw[hg c vp]
 have S:∀c,c<l.length->ny g c=z.getD c 0:=λc vp=>by unfold ny;rw[hg c vp]
 have aw:∀c,c<l.length->AW F l.length (ys.getD c []):=λc vp=>QI.aw hA J.pi.rl I vp
 have L:∀c,c<l.length->∀p∈Cv g c,∃x y,l[x]? =some y/\rep x=c/\∃b∈y.bD,p=(b.aT,rep b.To.toNat):=λc vp p D=>by rw[R c vp] at D;obtain⟨a,ha,rfl⟩:=aD.1 D;obtain⟨x,y,G,h2,b,K,rfl⟩:=I.from_ c vp a ((qh _).2.2 a|>.1 ha);exact⟨x,y,G,h2,b,K,ah⟩
 have O:∀x y,l[x]? =some y->∀b∈y.bD,(b.aT,b.To.toNat)∈(lG l).sc x:=λx y hxy b K=>by obtain⟨w,e⟩:=bF.1 hxy;rw[IP w,e];exact aD.2 ⟨b,K,rfl⟩
 have P:∀x y,x<l.length->y<l.length->rep x=rep y->∀p∈(lG l).sc x,∀q∈(lG l).sc y,p.1=q.1->rep p.2=rep q.2:=λx y w hy hxy p D q hq hpq=>by obtain⟨a,ha,G,h2⟩:=J.Y4 x w p D;obtain⟨b,K,h3,h4⟩:=J.Y4 y hy q hq;rw[<-hxy] at K;have:=nd_uniq (J.ao _ (J.pi.rl x w)).nd ha K af;rw[h2.done,this,h4.done]
 have conv:∀{C:Gr} {m:Nat->Nat},SH sb U l.length W C m->SH sbT (lG0 l) l.length W C m:=λQ=>⟨λ_ _=>trivial,λx w p D=>Q.ar x w p (by rw[us x w];exact D),Q.eq⟩
 refine⟨⟨λx w p D=> ?_,λx w=> ?_,λx w p D=> ?_,λx w=> ?_⟩,J.pi.rl,J.pi.rr,λx w p D=> ?_,⟨λx w=> ?_,λx w p D=> ?_,λp D=>(J.seq p D).done⟩,λC m hC Q x w=> ?_⟩
 .obtain⟨x',y,G,_,b,K,rfl⟩:=L x w p D;have:=(hA y (aI G)).ok b K;exact J.pi.rl _ af
 .show zl (Cv g x);rw[R x w];unfold zl;rw[gU];exact N4 (aw x w).nd
 .obtain⟨x',y,G,_,b,K,rfl⟩:=L x w p D;exact((hA y (aI G)).ok b K).1
 .show 0<=ny g x/\ny g x<_;rw[S x w];exact(hty x w).1
 .obtain⟨x',y,G,_,b,K,rfl⟩:=L x w p D;have:=(hA y (aI G)).ok b K;exact J.pi.rr _ af
 .show sb _ (ny g (rep x));rw[S _ (J.pi.rl x w),ut x w,<-(hty x w).2.1];exact(hty x w).2.2.1
 .rw[us x w] at D;have hp':=D;rw[IP w] at D;obtain⟨b,K,rfl⟩:=aD.1 D;obtain⟨a,ha,haf⟩:=I.all x _ (aM w) w b K;obtain⟨x2,y2,G,h2,b2,N,rfl⟩:=I.from_ _ (J.pi.rl x w) a ha;have V:=(bF.1 G).1;have e:=P x _ w V h2.symm _ hp' _ (O _ _ G _ N) haf.symm;show(b.aT,rep _)∈Cv g _;rw[R _ (J.pi.rl x w)];refine aD.2 ⟨_,(qh _).2.2 _|>.2 ha,?_⟩;rw[haf,aR];rw[e]
 .obtain⟨e1,_,_⟩:=J.dK C m hC (conv Q);have hall:∀y,y<l.length->rep y=rep x->m y=m x:=λy hy e=>by grind
  refine⟨e1 x w,?_,λp D=> ?_⟩
  .show sb (ny g _) _;have h0:=Q.ty x w;rw[S _ (J.pi.rl x w),<-(hty x w).2.1];refine(hty x w).2.2.2 _ (hT.rr h0).1 (hT.rr h0).2 λy hy e=> ?_
   rw[<-ut y hy,<-hall y hy e];exact Q.ty y hy
  .obtain⟨x2,y2,G,h2,b2,N,rfl⟩:=L _ (J.pi.rl x w) p D;have V:=(bF.1 G).1;have:=Q.ar _ V (b2.aT,b2.To.toNat) (by simp_all);have hb3:=(hA _ (aI G)).ok _ N;simp_all
section
variable {h:bR} {T F:Nat} {sb:Int->Int->Prop} (H:HM h T sb) {A B:FSt} (hA:Can T F A) (hB:Can T F B) (hF:F<=300) (hn:A.aj.length+B.aj.length<=1000000)
include H hA hB hF hn
theorem c440:(∃f,f440 h A B=some (f,true)/\Lub T F sb A B f)\/(f440 h A B=some (⟨[]⟩,false)/\∀C,Can T F C->Le sb A C->Le sb B C->False):=by
 have hl:(A.aj++B.aj.map (JF A.aj.length)).length=A.aj.length+B.aj.length:=ah;have g1:f448 A.aj B.aj=some (A.aj++B.aj.map (JF A.aj.length)):=c448 hn (hB.small af af);have L:∀x,(q:x<A.aj.length)->(A.aj++B.aj.map (JF A.aj.length))[x]? =some A.aj[x]:=λx q=>by grind
 have D:∀x,(q:x<A.aj.length+B.aj.length)->(w:¬x<A.aj.length)->(A.aj++B.aj.map (JF A.aj.length))[x]? =some (JF A.aj.length (B.aj[x-A.aj.length]'(by omega))):=λx q w=>by grind
 have G:∀x∈A.aj++B.aj.map (JF A.aj.length),AW F (A.aj++B.aj.map (JF A.aj.length)).length x.bD:=λx q=>by
  rw[hl];rcases bw.1 q with q|q
  .have:=hA.ao q;exact⟨this.yh.nd,λa Q=>⟨(this.ok a Q).1,(this.ok a Q).2.1,by have:=(this.ok a Q).2.2;omega⟩⟩
  .obtain⟨y,hy,rfl⟩:=aD.1 q;exact((hB.ao hy).sh af).aw
 have htl:∀x∈A.aj++B.aj.map (JF A.aj.length),0<=x.cQ/\x.cQ<(T:Int):=λx q=>by
  rcases bw.1 q with q|q
  .exact hA.Pw q
  .obtain⟨y,hy,rfl⟩:=aD.1 q;show 0<=y.cQ/\_;exact hB.Pw hy
 have us:∀x,x<A.aj.length+B.aj.length->(ri A B).sc x=(lG (A.aj++B.aj.map (JF A.aj.length))).sc x:=λx q=>by
  rw[IP af];by_cases w:x<A.aj.length
  .have e:=(bF.1 (L x w)).2;rw[e,(zQ w).1,qu w];rfl
  .have e:=(bF.1 (D x q w)).2;rw[e,(zR w).1,qu af];show _=(zk _ _).map _;rw[R6 (hB.ao (br _))];rfl
 have ut:∀x,x<A.aj.length+B.aj.length->(ri A B).ty x=(lG (A.aj++B.aj.map (JF A.aj.length))).ty x:=λx q=>by
  rw[acu af];by_cases w:x<A.aj.length
  .simp_all[bF,zQ,ox]
  .have e:=(bF.1 (D x q w)).2;rw[e,(zR w).2,ox af];rfl
 have N:=hA.ne;have hb0:=hB.ne;have hT0:0<T:=by have:=hA.go.tp 0 N;omega
 clear L D;generalize hL:A.aj++B.aj.map (JF A.aj.length)=l at *;have V:l.length *F<=300000000:=by have:=uh (by omega:l.length<=1000000) hF;omega
 have g2:f449 (l.length:Int)=some (ids 0 l.length):=c449 af;have hi0:(ids 0 l.length).getD 0 0=0:=ES af;have U:(ids 0 l.length).getD A.aj.length 0=(A.aj.length:Int):=ES af;have g3:f450 (ids 0 l.length) 0 (A.aj.length:Int)=some (NY 0 A.aj.length (ids 0 l.length)):=by
  refine e450 ?_;have k0:∀{R:Type} (z:Int->Option R),aW (ids 0 l.length) 0 z=z 0:=λz=>by have:=sF (l:=ids 0 l.length) (i:=0) (by grind) z;simp_all
  have ka:∀{R:Type} (z:Int->Option R),aW (ids 0 l.length) (A.aj.length:Int) z=z A.aj.length:=λz=>by rw[sF (by rw[qc];omega)];exact aK z U
  rw[k0,ka,k0,ka,bU _ ah (by rw[qc];omega) af,au af,az af,dh];exact h450 (ids 0 l.length) [] (by rw[qc];simp_all)
 obtain⟨out,ty,ar,rep,d,g4,ho,J⟩:=c451 af af V N af G;rcases c452 H af htl hT0 J.pi.len ho J.pi.rl J.pi.rr with⟨types,g5,ht1,ht2⟩|⟨g5,c,vp,hno⟩
 .obtain⟨g,ys,g6,hg1,I,S⟩:=c453 af af G J.pi.len ho J.pi.rl ht1 (root:=0) af;have hU:=quo_uni H.to G (λx q=>us x af) (λx q=>ut x af) J ht2 I S;have K :=hl;rw[K] at hU g6;refine .inl ⟨_,e440 ?_,PN H.to hA hB hU⟩;grind
 .refine .inr ⟨e440 ?_,λC hC h1 h2=> ?_⟩
  .grind
  .obtain⟨m,_,P⟩:=HS hA hB hC h1 h2;have K :=hl;rw[<-K] at P;have conv:SH sbT (lG0 l) _ _ _ m:=⟨λ_ _=>trivial,λx q p hp=>P.ar x q p (by rw[us x af];exact hp),P.eq⟩
   obtain⟨e1,_,_⟩:=J.dK _ m hC.KC conv
   have O:=H.to.rr (P.ty c vp);refine hno _ O.1 O.2 λx q hxc=> ?_
   have:m c=m x:=by grind
   rw[this,<-ut x af];exact P.ty x q
end
end Go.Proofs.YthppjmoncapdfaaGreatDoor.cl.pf
namespace Go.Proofs.YthppjmoncapdfaaGreatDoor.cl.pf
open Go Go.AM
def Lr {N k:Nat} (h:k<N):(List.range N).idxOf k=k:=uW List.nodup_range (oG h)
def H6 {T F:Nat} {g:FSt} (G:0<g.aj.length) (z:GO T F (mJ g) g.aj.length) (hn:∀x∈g.aj,∀a∈x.bD,0<=a.To) (L:jQ (mJ g) g.aj.length 0=List.range g.aj.length):Can T F g:=by
 refine⟨G,z,?_⟩;obtain⟨l⟩:=g;unfold lM;rw[L];congr 1;apply kq;intro i;rw[dF];by_cases D:i<l.length
 .rw[oG D,aM _];congr 1;have e1:ny _ i=l[i].cQ:=ox _;have q:iY _ i=SE l[i]:=qu _;show l[i]=(⟨ny _ i,(iY _ i).map _⟩)
  rw[e1,q];unfold SE;rw[eV]
  have:l[i].bD=l[i].bD.map ((λp:Int×Nat=>(⟨p.1,((List.range l.length).idxOf p.2)⟩))∘λa=>(a.aT,a.To.toNat)):=by
   conv=>lhs;rw[<-jX l[i].bD]
   refine gT λa w=> ?_
   have I:=hn _ (br _) a w;have K :=z.bd i D _ (by show _∈iY _ _;rw[q];exact aD.2 ⟨a,w,rfl⟩);show a=⟨_,_⟩
   rw[Lr K];obtain⟨x,y⟩:=a;simp at I⊢;congr 1;omega
  exact aK (Node.mk _) this
 simp_all
def zn (f:FSt) (tl:List Int):FSt:=⟨List.zipWith (λx t=>⟨t,x.bD⟩) f.aj tl⟩
section
variable {f:FSt} {tl:List Int} (hl:tl.length=f.aj.length)
include hl
theorem vT:(zn f tl).aj.length=f.aj.length:=by show(List.zipWith _ _ _).length=_;simp_all
theorem D6 {i:Nat} (q:i<f.aj.length):(zn f tl).aj[i]? =some ⟨tl.getD i 0,f.aj[i].bD⟩:=by show(List.zipWith _ _ _)[i]? =_;simp_all
theorem yN:iY (zn f tl)=iY f:=by
 funext i;by_cases q:i<f.aj.length
 .unfold iY;rw[D6 hl q,aM _];rfl
 grind[N0,zn]
theorem Ct {i:Nat} (q:i<f.aj.length):ny (zn f tl) i=tl.getD i 0:=by unfold ny;rw[D6 hl q]
theorem Can.zn {T F:Nat} (h:Can T F f) {G:Nat} (L:∀i,i<f.aj.length->0<=tl.getD i 0/\tl.getD i 0<(G:Int)):Can G F (zn f tl):=by
 have z:=vT hl;have w:=yN hl;refine H6 (by rw[z];exact h.ne) ?_ ?_ ?_
 .rw[z];refine⟨?_,?_,?_,λi q=> ?_⟩
  .show Bd (iY _) _;rw[w];exact h.go.bd
  .show∀n,n<_->zl (iY _ n);rw[w];exact h.go.yh
  .show∀n,n<_->∀p∈iY _ n,_;rw[w];exact h.go.ft
  .show 0<=ny _ i/\ny _ i<_;simp_all[Ct]
 .intro x K a I;obtain⟨i,q⟩:=gE.1 K;have D:i<f.aj.length:=by have:=(bF.1 q).1;omega
  rw[D6 hl D] at q;cases q;exact h.nn (br _) I
 .rw[z]
  have:jQ (mJ (cl.pf.zn f tl)) f.aj.length 0=jQ (mJ f) f.aj.length 0:=by show nX (iY _) _ _ _=nX (iY f) _ _ _;rw[w]
  rw[this,h.ord]
theorem rty_at {q:List Int}:zN (zn f tl) q=zN f q:=by
 have w:=yN hl;have key:∀(q) (n),AU (mJ (zn f tl)) n q=AU (mJ f) n q:=by intro q;induction q with
  |nil=>intro n;rfl
  |cons g q z=>
   intro n;show(match zo (iY _ n) g with|some k=>_|none=>_)=(match zo (iY f n) g with|some k=>_|none=>_)
   simp_all
 simp_all
end
structure HV (h:bR) (T F:Nat) (sb:Int->Int->Prop) (bW:Int->Int) (val:Int->Int->Int):Prop where
 hm:HM h T sb
 fl:h.cE.length=F
 int:∀f:Int,0<=f->f<(F:Int)->(h.cE.getD f.toNat default).Intro=bW f/\0<=bW f/\bW f<(T:Int)
 vl:∀t f:Int,0<=t->t<(T:Int)->0<=f->f<(F:Int)->sb (bW f) t->f355 h t f=some (val t f,true)/\f356 h t f=some (val t f,true)/\0<=val t f/\val t f<(T:Int)
 noval:∀t f:Int,0<=t->t<(T:Int)->0<=f->f<(F:Int)->¬sb (bW f) t->∃v,f355 h t f=some (v,false)/\f356 h t f=some (v,false)
 mono:∀t u f:Int,0<=f->f<(F:Int)->sb (bW f) t->sb t u->sb (val t f) (val u f)
 le:∀a b:Int,sb a b->a<=b
def Gv (sb:Int->Int->Prop) (bW:Int->Int) (val:Int->Int->Int) (f:FSt) (q:Nat->Int) (n:Nat):Prop:=∀p∈iY f n,sb (bW p.1) (q n)/\sb (val (q n) p.1) (q p.2)
def BS (sb:Int->Int->Prop) (bW:Int->Int) (val:Int->Int->Int) (f:FSt) (q:Nat->Int):Prop:=
 ∀n,n<f.aj.length->sb (ny f n) (q n)/\Gv sb bW val f q n
structure TS (T:Nat) (sb:Int->Int->Prop) (bW:Int->Int) (val:Int->Int->Int) (f:FSt) (tl:List Int):Prop where
 len:tl.length=f.aj.length
 rg:∀n,n<f.aj.length->0<=tl.getD n 0/\tl.getD n 0<(T:Int)
 up:∀n,n<f.aj.length->sb (ny f n) (tl.getD n 0)
 dK:∀τ,BS sb bW val f τ->∀n,n<f.aj.length->sb (tl.getD n 0) (τ n)
def room (T:Nat) (tl:List Int):Nat:=(tl.map λt=>T-t.toNat).sum
def RX {T:Nat}:∀{tl:List Int} {n:Nat} {m:Int},n<tl.length->0<=tl.getD n 0->tl.getD n 0<m->m<(T:Int)->room T (tl.set n m)+1<=room T tl
 |[],n,m,h,_,_,_=>by simp at h
 |x::tl,0,m,_,q,w,z=>by have w:x<m:=w;simp[room,qZ,aS,q7];omega
 |x::tl,n+1,m,h,q,w,z=>by
  have q :=by simpa using q
  have:=RX (by simp_all) q w z;simp[room,List.set_cons_succ,aS,q7] at *;omega
def room_le {T:Nat}:∀{tl:List Int},room T tl<=tl.length *T
 |[]=>by simp[room]
 |x::tl=>by have:=room_le (T:=T) (tl:=tl);simp[room,aS,q7,bg,sU] at *;omega
def WS {T:Nat}:∀{a b:List Int},a.length=b.length->(∀n,n<a.length->0<=a.getD n 0/\a.getD n 0<=b.getD n 0/\b.getD n 0<(T:Int))->a=b\/room T b<room T a
 |[],[],_,_=> .inl rfl
 |x::a,y::b,h,q=>by
  have w:=q 0 ah;have D:0<=x/\x<=y/\y<(T):=w
  rcases WS (a:=a) (b:=b) (by simp_all) (λn hn=>by
   have:=q (n+1) (by simp_all)
   assumption) with e|e
  .subst e;by_cases z:x=y
   .simp_all
   .simp[room,aS,q7];omega
  .simp[room,aS,q7] at *;omega
 |[],y::b,h,_=>by simp at h
 |x::a,[],h,_=>by simp at h
section
variable {h:bR} {T F:Nat} {sb:Int->Int->Prop} {bW:Int->Int} {val:Int->Int->Int} (H:HV h T F sb bW val) {f:FSt} (hf:Can T F f) (hn:f.aj.length<=100000) (hT:T<=1000) (hF:F<=1000)
structure Ext (T:Nat) (sb:Int->Int->Prop) (N:Nat) (tl tl':List Int) (u:List Nat):Prop where
 mono:∀n,n<N->sb (tl.getD n 0) (tl'.getD n 0)
 chg:∀n,n<N->tl'.getD n 0=tl.getD n 0\/n∈u
 lt:∀n∈u,n<N
 room:u.length+room T tl'<=room T tl
include H
theorem Ext.refl {tl:List Int} (S:TS T sb bW val f tl):Ext T sb f.aj.length tl tl []:=
 ⟨λn hn=>H.hm.to.refl (S.rg n hn).1 (S.rg n hn).2,λn _=> .inl rfl,(λn hn=>by cases hn),ah⟩
theorem Ext.trans {N:Nat} {a b c:List Int} {u v:List Nat} (q:Ext T sb N a b u) (w:Ext T sb N b c v):Ext T sb N a c (u++v):=by
 refine⟨λn hn=>H.hm.to.trans (q.mono n hn) (w.mono n hn),λn hn=> ?_,λn hn=> ?_,by have:=q.room;have:=w.room;grind⟩
 .rcases q.chg n hn with e|e
  .rcases w.chg n hn with z|z
   .omega
   simp_all
  simp_all
 .exact(bw.1 hn).elim (q.lt n) (w.lt n)
theorem TS.raise {tl:List Int} (S:TS T sb bW val f tl) {n:Nat} (z:n<f.aj.length) {t m:Int} (G:sb (tl.getD n 0) m) (L:sb t m) (I:∀c,sb (tl.getD n 0) c->sb t c->sb m c) (K:∀D,BS sb bW val f D->sb t (D n)):TS T sb bW val f (tl.set n m):=by
 have hl:n<tl.length:=by rw[S.len];exact z
 refine⟨by rw[fM];exact S.len,λx q=> ?_,λx q=> ?_,λD w x q=> ?_⟩<;>rw[eG]<;>by_cases e:n=x
 .rw[az ⟨e,af⟩];exact H.hm.to.rr G
 .rw[au (λh=>e h.1)];exact S.rg x q
 .rw[az ⟨e,af⟩];subst e;exact H.hm.to.trans (S.up n q) G
 .rw[au (λh=>e h.1)];exact S.up x q
 .rw[az ⟨e,af⟩];subst e;exact I _ (S.dK _ w n q) (K _ w)
 .rw[au (λh=>e h.1)];exact S.dK _ w x q
theorem Ext.one {tl:List Int} (S:TS T sb bW val f tl) {n:Nat} (q:n<f.aj.length) {m:Int} (D:sb (tl.getD n 0) m) (G:m≠tl.getD n 0):Ext T sb f.aj.length tl (tl.set n m) [n]:=by
 have hl:n<tl.length:=by rw[S.len];exact q
 have I:=H.le _ _ D;have z:=H.hm.to.rr D;refine⟨λx w=> ?_,λx w=> ?_,λx w=> ?_,?_⟩
 .rw[eG];by_cases e:n=x
  .simp_all
  .rw[au (λh=>e h.1)];exact H.hm.to.refl (S.rg x w).1 (S.rg x w).2
 .grind
 .simp_all
 .have:=RX hl (S.rg n q).1 af z.2;grind
theorem Gv.ext {tl w:List Int} {u:List Nat} (hf:Can T F f) (E:Ext T sb f.aj.length tl w u) {n:Nat} (q:n<f.aj.length) (I:Gv sb bW val f (λx=>tl.getD x 0) n):n∈u\/Gv sb bW val f (λx=>w.getD x 0) n:=by
 rcases E.chg n q with e|e
 .right;intro p G;have D:=I p G;have z:=hf.bd n q p G;simp only[e] at *;exact⟨D.1,H.hm.to.trans D.2 (E.mono _ z)⟩
 simp_all
include hn
theorem c472 {tl:List Int} (S:TS T sb bW val f tl) {w:List Int} (R:w.length<=1000000000) {n:Nat} (q:n<f.aj.length) {t:Int} (N:0<=t/\t<(T:Int)) (L:∀G,BS sb bW val f G->sb t (G n)):
  (∃z u,f472 (n:Int) t h.Types h.cE tl w=some (true,z,w++iE u)/\TS T sb bW val f z/\Ext T sb f.aj.length tl z u/\sb t (z.getD n 0))\/
  (f472 (n:Int) t h.Types h.cE tl w=some (false,tl,w)/\∀G,BS sb bW val f G->False):=by
 have hl:n<tl.length:=by rw[S.len];exact q
 have r:=S.rg n q;rcases H.hm.mt _ t r.1 r.2 N.1 N.2 with⟨m,I,O,K,P,Q⟩|⟨m,I,O,K⟩
 .by_cases e:m=tl.getD n 0
  .refine .inl ⟨tl,[],e472 ?_,S,Ext.refl H S,by simp_all⟩;rw[qH hl,I,ak,cond_neg (by rfl),qH hl,cond_neg (by simp_all)];simp[iE]
  .refine .inl ⟨_,_,e472 ?_,S.raise H q K P Q L,Ext.one H S q K e,by simp_all⟩;rw[qH hl,I,ak,cond_neg (by rfl),qH hl,cond_pos (by simp_all),qH hl,bh ⟨rfl,rfl⟩,bU _ af ah af];rfl
 .refine .inr ⟨e472 ?_,λG D=>K _ (S.dK _ D n q) (L _ D)⟩;rw[qH hl,I,ak,cond_pos (by rfl)]
include hf hF
theorem arcN {n:Nat} (q:n<f.aj.length) {a:bY} (w:a∈f.aj[n].bD):(0<=a.aT/\a.aT<(F:Int))/\(0<=a.To/\a.To<(f.aj.length:Int))/\(a.aT,a.To.toNat)∈iY f n:=by have:=(hf.ao (br _)).ok a w;refine⟨this.1,this.2,?_⟩;rw[qu q];exact aD.2 ⟨a,w,rfl⟩
theorem h461_8 {n:Nat} (q:n<f.aj.length):∀(xs:List bY) (k:Nat) (tl w:List Int),f.aj[n].bD.drop k=xs->TS T sb bW val f tl->w.length+room T tl<=1000000000->(∀a∈f.aj[n].bD,sb (bW a.aT) (tl.getD n 0))->
  (∃z u,Fj (n:Int) f.aj[n].bD (f.aj[n].bD.length:Int) (k:Int) f h.Types h.cE tl w=some (true,z,w++iE u)/\TS T sb bW val f z/\Ext T sb f.aj.length tl z u/\(n∈u\/∀a∈xs,sb (val (z.getD n 0) a.aT) (z.getD a.To.toNat 0)))\/
  ((∃z w',Fj (n:Int) f.aj[n].bD (f.aj[n].bD.length:Int) (k:Int) f h.Types h.cE tl w=some (false,z,w'))/\∀N,BS sb bW val f N->False):=by
 have hal:=(hf.ao (br q)).len;intro xs;induction xs with
 |nil=>intro k tl w D S _ _;refine .inl ⟨tl,[],Nf ?_,S,Ext.refl H S, .inr λa I=>by cases I⟩;rw[bq D,aA];simp[iE]
 |cons a xs ih=>
  intro k tl w D S hw hint;have I:=aI (bA D);obtain⟨G,hto,hsc⟩:=arcN H hf hn hF q I;obtain⟨t,ht⟩:=eN hto.1;have Q:t<f.aj.length:=af;have R:a.To.toNat=t:=af;have hl:n<tl.length:=by rw[S.len];exact q
  have r:=S.rg n q;obtain⟨v1,_,v2⟩:=H.vl _ a.aT r.1 r.2 G.1 G.2 (hint a I);have P:∀N,BS sb bW val f N->sb (val (tl.getD n 0) a.aT) (N t):=λN U=>by have:=((U n q).2 _ hsc).2;rw[R] at this;exact H.hm.to.trans (H.mono _ _ _ G.1 G.2 (hint a I) (S.dK N U n q)) this
  have hlt:=c9 D;rcases c472 H hn S (w:=w) af Q v2 P with⟨YN,u1,g1,S1,V,b1⟩|⟨g1,L⟩
  .have K:∀a∈f.aj[n].bD,sb (bW a.aT) (YN.getD n 0):=λa I=>H.hm.to.trans (hint a I) (V.mono n q)
   have hr:=V.room;rcases ih (k+1) YN (w++iE u1) (aH D) S1 (by simp[iE];omega) K with⟨Sl,u2,g2,S2,E2,O⟩|⟨⟨Sl,w2,g2⟩,L⟩
   .refine .inl ⟨Sl,u1++u2,Nf ?_,S2,V.trans H E2,?_⟩
    .rw[bf D,ai,aQ D,qH hl,show(bR.mk h.Types h.cE)=h from rfl,v1,ak,cond_neg (by rfl),ht,g1,jO,cond_neg (by rfl),aX D af,g2];simp[iE]
    .rcases O with O|O
     .exact .inl (fN _ O)
     .rcases V.chg n q with e1|e1
      .rcases E2.chg n q with e2|e2
       .right;intro b hb;rcases aG.1 hb with rfl|hb
        .rw[e2,e1,R];exact H.hm.to.trans b1 (E2.mono t Q)
        .exact O b hb
       simp_all
      simp_all
   .refine .inr ⟨⟨Sl,w2,Nf ?_⟩,L⟩;rw[bf D,ai,aQ D,qH hl,v1,ak,cond_neg (by rfl),ht,g1,jO,cond_neg (by rfl),aX D af,g2]
  .refine .inr ⟨⟨tl,w,Nf ?_⟩,L⟩;rw[bf D,ai,aQ D,qH hl,v1,ak,cond_neg (by rfl),ht,g1,jO,cond_pos (by rfl)]
theorem h461_2 {n:Nat} (z:n<f.aj.length):∀(xs:List bY) (k:Nat) (tl w:List Int),f.aj[n].bD.drop k=xs->TS T sb bW val f tl->w.length+room T tl<=1000000000->(∀a∈f.aj[n].bD.take k,sb (bW a.aT) (tl.getD n 0))->
  (∃q u,Cz (n:Int) f.aj[n].bD (f.aj[n].bD.length:Int) (k:Int) f h.Types h.cE tl w=some (true,q,w++iE u)/\TS T sb bW val f q/\Ext T sb f.aj.length tl q u/\(n∈u\/Gv sb bW val f (λx=>q.getD x 0) n))\/
  ((∃q w',Cz (n:Int) f.aj[n].bD (f.aj[n].bD.length:Int) (k:Int) f h.Types h.cE tl w=some (false,q,w'))/\∀τ,BS sb bW val f τ->False):=by
 have hal:=(hf.ao (br z)).len;intro xs;induction xs with
 |nil=>
  intro k tl w D S hw hint;rw[gd (iq D)] at hint;have step:∀r,Fj (n:Int) f.aj[n].bD (f.aj[n].bD.length:Int) 0 f h.Types h.cE tl w=some r->Cz (n:Int) f.aj[n].bD (f.aj[n].bD.length:Int) (k:Int) f h.Types h.cE tl w=some r:=λr hr=>by refine Nd ?_;rw[bq D,aA,bS z];omega
  rcases h461_8 H hf hn hF _ _ 0 _ w rfl S hw hint with⟨q,u,K,S1,L,b⟩|⟨⟨q,w',K⟩,I⟩
  .refine .inl ⟨_,u,step _ K,S1,L,b.imp id λb p V=> ?_⟩;rw[qu z] at V;obtain⟨a,O,rfl⟩:=aD.1 V;exact⟨H.hm.to.trans (hint a O) (L.mono n z),b a O⟩
  simp_all
 |cons a xs ih=>
  intro k tl w D S hw hint;have O:=aI (bA D);obtain⟨G,hto,Q⟩:=arcN H hf hn hF _ O;obtain⟨U,i2⟩:=H.int _ G.1 G.2;have hfl:=H.fl;rcases c472 H hn S (w:=w) af z i2 (λτ R=>((R n z).2 _ Q).1) with⟨YN,u1,K,S1,L,b1⟩|⟨K,I⟩
  .have hr:=L.room
   rcases ih _ _ (w++iE u1) (aH D) S1 (by simp[iE];omega) (λb N=>by
    rw[cr,bA D] at N;rcases bw.1 N with N|N
    .exact H.hm.to.trans (hint b N) (L.mono n z)
    simp_all) with⟨Sl,u2,P,S2,E2,b2⟩|⟨⟨Sl,w2,P⟩,I⟩
   .refine .inl ⟨_,_,Nd ?_,S2,L.trans H E2,b2.imp (λh=>fN _ h) id⟩;rw[bf D,aQ D,wR G.1 af,U,K,jO,aX D af,P];simp[iE]
   .refine .inr ⟨⟨Sl,w2,Nd ?_⟩,I⟩;rw[bf D,ai,aQ D,wR G.1 af,U,K,jO,cond_neg (by rfl),aX D af,P]
  .refine .inr ⟨⟨tl,w,Nd ?_⟩,I⟩;rw[bf D,ai,aQ D,wR G.1 af,U,K,jO,cond_pos (by rfl)]
theorem c461 {n:Nat} (z:n<f.aj.length) {tl w:List Int} (S:TS T sb bW val f tl) (L:w.length+room T tl<=1000000000):
  (∃q u,f461 f (n:Int) h.Types h.cE tl w=some (true,q,w++iE u)/\TS T sb bW val f q/\Ext T sb f.aj.length tl q u/\(n∈u\/Gv sb bW val f (λx=>q.getD x 0) n))\/
  ((∃q D,f461 f (n:Int) h.Types h.cE tl w=some (false,q,D))/\∀N,BS sb bW val f N->False):=by
 have step:∀r,Cz (n) f.aj[n].bD (f.aj[n].bD.length) 0 f h.Types h.cE tl w=some r->f461 f (n) h.Types h.cE tl w=some r:=λr P=>by simp_all[e461,bS]
 rcases h461_2 H hf hn hF z _ 0 _ w rfl S L (λa I=>by cases I) with⟨q,u,G,O⟩|⟨⟨q,D,G⟩,K⟩
 .grind
 simp_all
def Zf (T:Nat) (sb:Int->Int->Prop) (bW:Int->Int) (val:Int->Int->Int) (f:FSt) (res:Option (FSt×Bool)):Prop:=
 (∃tl,res=some (zn f tl,true)/\TS T sb bW val f tl/\∀n,n<f.aj.length->Gv sb bW val f (λx=>tl.getD x 0) n)\/
 (res=some (⟨[]⟩,false)/\∀q,BS sb bW val f q->False)
omit H hf hn hF in
theorem c462 {l:List Node} (hl:l.length<=1000000):f462 l=some l:=by refine iV (E:=EN Q27) ?_;refine mL ?_;have q:Nat.ble ((List.map Node.enc l).length *32) 140737488355328=true:=ij (by rw[aV];omega);show(bif Nat.ble ((List.map Node.enc l).length *32) 140737488355328 then _ else _)=_;rw[q];rfl
omit H hf hF in
theorem VR {Q:bR} {R:FSt} {a b:List gL} {c d:List c8} {q z:List Node} {w tl:List Int} (hl:tl.length=f.aj.length):∀(k i:Nat) (s:List Node),f.aj.length=i+k->s.length=f.aj.length->
  (∀j,(D:j<f.aj.length)->s[j]? =some (if j<i then⟨tl.getD j 0,f.aj[j].bD⟩ else f.aj[j]))->
  Em (f.aj.length:Int) (i:Int) Q R a c s q b d tl w z=some (zn f tl,true):=by
 intro k;induction k with
 |zero=>
  intro i s O N I;refine QY ?_;have e:i=f.aj.length:=af;subst e;rw[cond_neg (by rw[bP];omega)]
  have:s=(zn f tl).aj:=by
   apply kq;intro j;by_cases D:j<f.aj.length
   .rw[I j D,az D,D6 hl D]
   .rw[fB af,fB (by rw[vT hl];omega)]
  rw[this]
 |succ k P=>
  intro i s O N I;have K:i<f.aj.length:=af;refine QY ?_;have G:=I i K;rw[au (tY _)] at G;rw[cond_pos (by rw[bH];omega),qH af,uP af,aR,gF G,bp af];refine P (i+1) _ af (by rw[fM];exact N) λj D=> ?_
  rw[qC];by_cases e:i=j
  .subst e;rw[az rfl,az af,az af]
  .rw[au e,I j D];by_cases L:j<i
   .rw[az L,az af]
   .rw[au L,au af]
theorem h434_9 {o4:FSt} {b:List gL} {d:List c8}:∀(M i:Nat) (w:List Nat) (tl:List Int),(w.length-i)+room T tl<=M->i<=w.length->w.length+room T tl<=1000000000->TS T sb bW val f tl->(∀n∈w,n<f.aj.length)->
  (∀n,n<f.aj.length->n∈w.drop i\/Gv sb bW val f (λx=>tl.getD x 0) n)->
  Zf T sb bW val f (Cy (i:Int) h f o4 h.Types h.cE b d tl (iE w)):=by
 intro M;induction M with
 |zero=>intro i w tl hM hi hw S q L;have e:i=w.length:=af;subst e;refine .inl ⟨tl,Na ?_,S,λn hn=>(L n hn).elim (λh=>by simp_all) id⟩;rw[cond_neg (by grind[decide_eq_false_iff_not,iE]),c462 af,ak];exact VR hn S.len f.aj.length 0 f.aj af rfl λj hj=>by simp
 |succ M ih=>
  intro i w tl hM hi hw S q L;by_cases G:i<w.length
  .have hd:w.drop i=w[i]::w.drop (i+1):=kW G;have P:=q w[i] (br G);generalize hwn:w[i]=n at *;have hol:(iE w).length=w.length:=by simp[iE]
   have I:(iE w).getD i 0=(n:Int):=by unfold iE;simp_all
   rcases c461 H hf hn hF P S (w:=iE w) af with⟨z,u,K,S1,O,b1⟩|⟨⟨z,w',K⟩,Q⟩
   .have hr:=O.room;have D:iE w++iE u=iE (w++u):=by simp[iE]
    rw[D] at K
    have:=ih (i+1) (w++u) z (by grind) (by grind) (by grind) S1 (λx N=>(bw.1 N).elim (q x) (O.lt x)) (λx N=>by
     rw[ug af];by_cases e:x=n
     .grind
     .rcases L x N with V|V
      .simp_all
      .exact(Gv.ext H hf O N V).imp (λh=>fN _ h) id)
    have step:∀r,Cy ((i+1:Nat):Int) h f o4 h.Types h.cE b d z (iE (w++u))=some r->Cy (i:Int) h f o4 h.Types h.cE b d tl (iE w)=some r:=λr hr=>by refine Na ?_;rw[cond_pos (by simp_all),qH af,I,K,jO,cond_neg (by rfl),bp af];omega
    rcases this with⟨Sl,R,U⟩|⟨R,U⟩
    .exact .inl ⟨_,step _ R,U⟩
    .exact .inr ⟨step _ R,U⟩
   .refine .inr ⟨Na ?_,Q⟩;rw[cond_pos (by simp_all),qH af,I,K,jO,cond_pos (by rfl)]
  .have e:i=w.length:=af;refine .inl ⟨tl,Na ?_,S,λn hn=>(L n hn).elim (λh=>by simp_all) id⟩;rw[cond_neg (by grind[iE]),c462 af,ak];exact VR hn S.len f.aj.length 0 _ af rfl λj hj=>by simp
theorem TS.init:TS T sb bW val f (f.aj.map (·.cQ)):=by
 have e:∀n,n<f.aj.length->(f.aj.map (·.cQ)).getD n 0=ny f n:=λn q=>by grind[ox]
 refine⟨ah,λn q=> ?_,λn q=> ?_,λz w n q=> ?_⟩<;>rw[e n q]
 .exact hf.go.tp n q
 .exact H.hm.to.refl (hf.go.tp n q).1 (hf.go.tp n q).2
 .exact(w n q).1
include hT
theorem c434:Zf T sb bW val f (f434 h f):=by
 have S:=TS.init H hf hn hF;have w:=room_le (T:=T) (tl:=f.aj.map (·.cQ));have L :=uh hn hT;have G:=h434_9 H hf hn hF (o4:=⟨[]⟩) (b:=[]) (d:=[]) _ 0 _ _ (aU _) (cZ _) (by grind) S (λn hn=>eM.1 hn) (λn hn=> .inl (by simp_all));have key:∀r,Cy 0 h f ⟨[]⟩ h.Types h.cE [] [] (f.aj.map (·.cQ)) (iE (List.range f.aj.length))=some r->∀(k i),f.aj.length=i+k->
   O1 f.aj (f.aj.length) (i) h f ⟨[]⟩ h.Types h.cE [] [] ((f.aj.take i).map (·.cQ)) (iE (List.range i))=some r:=by
  intro r w k;induction k with
  |zero=>intro i I;refine abY ?_;grind
  |succ k K=>intro i I;have q:i<f.aj.length:=af;refine abY ?_;rw[cond_pos (by grind),bS q,bU _ aF ah af,bU _ (by simp[iE];omega) ah af,bp af];have:=K (i+1) af;rw[cr,bM,iP] at this;simp_all[iE]
 have step :=λr w=>e434 (key r w f.aj.length 0 af)
 rcases G with⟨tl,z,D⟩|⟨z,D⟩
 .exact .inl ⟨tl,step _ z,D⟩
 .exact .inr ⟨step _ z,D⟩
end
