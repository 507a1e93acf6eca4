/- Unification by the least closed relation (the reference's). -/
import Derived.Test.YtacapiamkgkkjaaGreatDoorClXi
set_option linter.all false
open List (replicate)
namespace Go.Proofs.YtacapiamkgkkjaaGreatDoor.cl.pf
open Go Go.AM
section
variable {h:aU} {T:Nat} {sb:Int->Int->Prop} (H:HM h T sb) {l:List Node} (hn:l.length<=1000000) (Uk:∀x∈l,0<=x.ee/\x.ee<(T:Int)) (wH:0<T)
variable {cl:List Int} {rep:Nat->Nat} (hcl:cl.length=l.length) (hc:∀x,x<l.length->cl.getD x 0=(rep x:Nat)) (rl:∀x,x<l.length->rep x<l.length) (rr:∀x,x<l.length->rep (rep x)=rep x)
structure TI (T:Nat) (sb:Int->Int->Prop) (l:List Node) (rep:Nat->Nat) (i:Nat) (tl:List Int):Prop where
 len:tl.length=l.length
 ok:∀c,c<l.length->rep c=c->(0<=tl.getD c 0/\tl.getD c 0<(T:Int))/\(∀x,x<i->rep x=c->sb ((lG l).ty x) (tl.getD c 0))/\∀u,0<=u->u<(T:Int)->(∀x,x<i->rep x=c->sb ((lG l).ty x) u)->sb (tl.getD c 0) u
theorem RU {x:Nat} (q:x<l.length):(lG l).ty x=l[x].ee:=jY _
theorem My {x:Nat} (q:x<l.length):(lG l).sc x=l[x].cu.map λa=>(a.bM,a.To.toNat):=by show List.map _ _=_;simp_all
include H hn Uk hcl hc rl rr
theorem h452_3:∀(k i:Nat) (tl:List Int),l.length=i+k->TI T sb l rep i tl->
  (∃G,TI T sb l rep l.length G/\∀res,Fi l cl 0 G=some res->BG l cl (i:Int) h tl=some res)\/
  (BG l cl (i:Int) h tl=some ([],false)/\∃c,c<l.length/\∀u,0<=u->u<(T:Int)->(∀x,x<l.length->rep x=c->sb ((lG l).ty x) u)->False):=by
 intro k;induction k with
 |zero=>intro i tl hi I;have e:i=l.length:=af;subst e;refine .inl ⟨tl,I,λres hr=>Ur ?_⟩;grind
 |succ k ih=>
  intro i tl hi I;have q:i<l.length:=af;have K:=rl i q;have Q:∀{R:Type} (L:Int->Option R),bB cl (i:Int) L=L ((rep i:Nat):Int):=λL=>by rw[u7 af];exact aR L (hc i q)
  obtain⟨o1,o2,o3⟩:=I.ok (rep i) K (rr i q);have Yr:=Uk _ (cG q);have O:=RU q;rcases H.mt _ _ o1.1 o1.2 Yr.1 Yr.2 with⟨t,_,U,V,m4,m5⟩|⟨t,_,U,V⟩
  .have I2:TI T sb l rep (i+1) (tl.set (rep i) t):=by
    refine⟨by rw[ji];exact I.len,λc hcl P=> ?_⟩;rw[e9];by_cases e:rep i=c
    .subst e;rw[aB ⟨rfl,by rw[I.len];omega⟩];refine⟨H.to.rr V,λx hx w=> ?_,λu z D S=> ?_⟩
     .by_cases N:x=i
      .subst N;rw[O];exact m4
      .exact H.to.trans (o2 x af w) V
     grind
    .rw[aA (λh=>e h.1)];obtain⟨q1,q2,q3⟩:=I.ok c hcl P;refine⟨q1,λx hx w=> ?_,λu z D S=>q3 u z D λx hx w=>S x af w⟩;by_cases N:x=i
     .subst N;exact absurd w e
     .exact q2 x af w
   have step:∀r,BG l cl ((i+1)) h (tl.set (rep i) t)=some r->BG l cl (i) h tl=some r:=by intro r hr;refine Ur ?_;rw[cond_pos (by grind),Q,sG (by rw[I.len];omega),cQ q,U,ak,cond_neg (by rfl),Q,sG (by rw[I.len];omega),bQ af];exact hr
   rcases ih _ _ af I2 with⟨G,g1,g2⟩|⟨g1,g2⟩
   .grind
   simp_all
  .refine .inr ⟨Ur ?_,_,K,λu z D S=> ?_⟩
   .rw[cond_pos (by grind),Q,sG (by rw[I.len];omega),cQ q,U,ak,cond_pos (by rfl)]
   grind
omit H Uk in
theorem h452_10 {tl:List Int} (hl:tl.length=l.length):∀(k i:Nat) (s:List Int),l.length=i+k->s.length=l.length->(∀x,x<l.length->s.getD x 0=if x<i then tl.getD (rep x) 0 else tl.getD x 0)->
  ∃z,Fi l cl (i:Int) s=some (z,true)/\z.length=l.length/\∀x,x<l.length->z.getD x 0=tl.getD (rep x) 0:=by
 intro k;induction k with
 |zero=>
  intro i s S K D;refine⟨s,WA ?_,K,λx w=> ?_⟩
  .rw[cond_neg (by rw[aS];omega)]
  .rw[D x w,aB af]
 |succ k V=>
  intro i s S K D;have q:i<l.length:=af;have I:=rl i q;have Q:∀{R:Type} (G:Int->Option R),bB cl (i:Int) G=G ((rep i:Nat):Int):=λG=>by rw[u7 af];exact aR G (hc i q)
  have U:s.getD (rep i) 0=tl.getD (rep i) 0:=by rw[D _ I,rr i q];split<;>rfl
  obtain⟨z,N,O,P⟩:=V (i+1) (s.set i (tl.getD (rep i) 0)) af (by rw[ji];exact K) λx w=>by
   rw[e9];by_cases e:i=x
   .subst e;rw[aB ⟨rfl,af⟩,aB af]
   .rw[aA (λh=>e h.1),D x w];by_cases L:x<i
    .rw[aB L,aB af]
    .rw[aA L,aA af]
  refine⟨z,WA ?_,O,P⟩;rw[cond_pos (by rw[bz];omega),Q,sG af,U,sG af,aV,bQ af];exact N
include wH in
theorem c452:(∃s,f452 h l cl=some (s,true)/\s.length=l.length/\∀c,c<l.length->(0<=s.getD c 0/\s.getD c 0<(T:Int))/\s.getD c 0=s.getD (rep c) 0/\sb ((lG l).ty c) (s.getD c 0)/\∀u,0<=u->u<(T:Int)->(∀x,x<l.length->rep x=rep c->sb ((lG l).ty x) u)->sb (s.getD c 0) u)\/
  (f452 h l cl=some ([],false)/\∃c,c<l.length/\∀u,0<=u->u<(T:Int)->(∀x,x<l.length->rep x=c->sb ((lG l).ty x) u)->False):=by
 have P:∀x,x<l.length->(replicate l.length (0:Int)).getD x 0=0:=λx z=>by rw[bq,kN,aB z];rfl
 have G:TI T sb l rep 0 (replicate l.length 0):=⟨ai,λc hcl N=>by
  rw[P c hcl]
  exact⟨⟨af,af⟩,λx z=>absurd z af,λu K L _=>H.to.top K L⟩⟩
 have pre:∀r,BG l cl 0 h (replicate l.length 0)=some r->f452 h l cl=some r:=λr O=>by refine e452 ?_;rw[bU ⟨af,by omega,by omega,af⟩,aV];exact O
 rcases h452_3 H hn Uk hcl hc rl rr l.length 0 _ af G with⟨tl,I,g⟩|⟨q,w⟩
 .obtain⟨s,q,w,D⟩:=h452_10 hn hcl hc rl rr I.len l.length 0 tl af I.len (λx _=>by rw[aA af]);refine .inl ⟨s,pre _ (g _ q),w,λc hcl=> ?_⟩;obtain⟨Q,R,S⟩:=I.ok (rep c) (rl c hcl) (rr c hcl);rw[D c hcl,D _ (rl c hcl),rr c hcl];exact⟨Q,rfl,R c hcl rfl,S⟩
 .exact .inr ⟨pre _ q,w⟩
end
section
variable {l:List Node} {F:Nat} (hn:l.length<=1000000) (hF:F<=1000000) (hA:∀x∈l,AW F l.length x.cu)
variable {cl:List Int} {rep:Nat->Nat} (hcl:cl.length=l.length) (hc:∀x,x<l.length->cl.getD x 0=(rep x:Nat)) (rl:∀x,x<l.length->rep x<l.length)
structure QI (l:List Node) (rep:Nat->Nat) (i k:Nat) (ys:List (List cB)):Prop where
 len:ys.length=l.length
 from_:∀c,c<l.length->∀a∈ys.getD c [],∃x y,l[x]? =some y/\rep x=c/\∃b∈y.cu,a=⟨b.bM,(rep b.To.toNat:Nat)⟩
 nd:∀c,c<l.length->((ys.getD c []).map (·.bM)).Nodup
 all:∀x y,l[x]? =some y->x<i->∀b∈y.cu,∃a∈ys.getD (rep x) [],a.bM=b.bM
 some_:∀y,l[i]? =some y->∀b∈y.cu.take k,∃a∈ys.getD (rep i) [],a.bM=b.bM
theorem IU {qB:Node->List cB->Node}:∀(xs:List Node) (q:List (List cB)),xs.length=q.length->ur qB xs (q.map some)=some (List.zipWith qB xs q)
 |[],[],_=>rfl
 |x::xs,y::q,h=>by have:=IU (qB:=qB) xs q (by simp_all);simp_all[ur]
 |[],y::q,h=>by simp at h
 |x::xs,[],h=>by simp at h
theorem ox {R:Type} {qB:Node->List cB->Node} {xs:List Node} {q:List (List cB)} (h:xs.length=q.length) (k:List Node->Option R):wh qB xs (q.map some) k=k (List.zipWith qB xs q):=by simp_all[wh,IU]
theorem MQ {R:Type} {q:List (List cB)} {i:Nat} (h:i<q.length) (k:List cB->List (Option (List cB))->Option R):U5 (q.map some) i k=k (q.getD i []) ((q.map some).set i none):=by simp_all[U5]
abbrev FA:Node->List cB->Node:=λx z=>{ x with cu:=z }
include hA rl in
theorem QI.aw {i k:Nat} {w:List (List cB)} (I:QI l rep i k w) {c:Nat} (hcl:c<l.length):AW F l.length (w.getD c []):=by refine⟨I.nd c hcl,λa D=> ?_⟩;obtain⟨x,y,q,K,b,G,rfl⟩:=I.from_ c hcl a D;have z:=(hA y (bf q)).ok b G;refine⟨z.1,by show 0<=((rep b.To.toNat:Nat):Int);omega,?_⟩;have:=rl b.To.toNat af;show((rep b.To.toNat:Nat):Int)<_;omega
include hn hF hA hcl hc rl
theorem h453_11 {D:List Node} (hnd:D.length=l.length) {root:Int} {o8:FSt} {i:Nat} {y:Node} (G:l[i]? =some y):∀(xs:List cB) (k:Nat) (w:List (List cB)),y.cu.drop k=xs->QI l rep i k w->
  ∃L,QI l rep (i+1) 0 L/\∀res,Ch l cl root ((i+1:Nat):Int) o8 D (L.map some)=some res->BH l cl root (i:Int) ((rep i:Nat):Int) (k:Int) o8 D (w.map some)=some res:=by
 have hil:i<l.length:=(bP.1 G).1;have Q:=rl i hil;have hyA:=hA y (bf G);have hyl:=hyA.len;intro xs;induction xs with
 |nil=>
  intro k w z I;refine⟨w,⟨I.len,I.from_,I.nd,λx S hx hlt b hb=> ?_,λS K b hb=>by cases hb⟩,λres hr=>JK ?_⟩
  .by_cases e:x=i
   .subst e;rw[G] at hx;cases hx;refine I.some_ y G b ?_;simp_all[jV,mh,z]
   .exact I.all x S hx af b hb
  .rw[iS G,bp z,au,bQ af];omega
 |cons b xs ih=>
  intro k w z I;have hb:=bf (cn z);have hbo:=hyA.ok b hb;obtain⟨t,ht⟩:=fU hbo.2.1;have Uk:t<l.length:=af;have htt:b.To.toNat=t:=af;have hlt:=eC z;have hyc:=(QI.aw hA rl I Q).len;have hz:(List.zipWith FA D w)[rep i]? =some (FA (D.getD (rep i) default) (w.getD (rep i) [])):=by rw[List.getElem?_zipWith,aN (by omega:rep i<D.length),aN (by rw[I.len];omega:rep i<w.length),bq,bq,aN (by omega:rep i<D.length),aN (by rw[I.len];omega:rep i<w.length)];rfl
  cases e:fa (w.getD (rep i) []) b.bM with
  |some a=>
   obtain⟨ha1,ha2⟩:=HT e
   have I2:QI l rep i (k+1) w:=⟨I.len,I.from_,I.nd,I.all,λS K U q=>by
    rw[G] at K;cases K;rw[dr,cn z] at q;rcases bA.1 q with q|q
    .exact I.some_ y G U q
    .simp at q;subst q;exact⟨a,ha1,ha2⟩⟩
   obtain⟨L,g1,g2⟩:=ih (k+1) w (aJ z) I2;refine⟨L,g1,λres hr=>JK ?_⟩;rw[iS G,aT z,aj,iS G,aP z,ox (by rw[hnd,I.len]),c476 hz (by show(w.getD (rep i) []).length<=_;omega),ak];show(bif !(fr (w.getD (rep i) []) b.bM).2 then _ else _)=_;unfold fr;rw[e,cond_neg (by rfl),aQ z af];exact g2 res hr
  |none=>
   have hno:=VZ e;have I2:QI l rep i (k+1) (w.set (rep i) (w.getD (rep i) []++[⟨b.bM,(rep t:Nat)⟩])):=by
    have O:rep i<w.length:=by rw[I.len];exact Q
    refine⟨by rw[ji];exact I.len,λc N a P=> ?_,λc N=> ?_,λx S hx hlt' U q=> ?_,λS K U q=> ?_⟩
    .rw[e9] at P;by_cases V:rep i=c
     .subst V;rw[aB ⟨rfl,O⟩] at P;rcases bA.1 P with P|P
      .exact I.from_ _ Q a P
      grind
     .rw[aA (λh=>V h.1)] at P;exact I.from_ c N a P
    .rw[e9];by_cases V:rep i=c
     .subst V;rw[aB ⟨rfl,O⟩,bZ,iE];refine⟨I.nd _ Q,by simp,λu hu v hv=> ?_⟩;grind
     .rw[aA (λh=>V h.1)];exact I.nd c N
    .obtain⟨a,P,hf⟩:=I.all x S hx hlt' U q;grind
    .rw[G] at K;cases K;rw[e9,aB ⟨rfl,O⟩];rw[dr,cn z] at q;rcases bA.1 q with q|q
     .obtain⟨a,P,hf⟩:=I.some_ y G U q;grind
     simp_all
   obtain⟨L,g1,g2⟩:=ih (k+1) _ (aJ z) I2;refine⟨L,g1,λres hr=>JK ?_⟩;have hgt:∀{R:Type} (kk:Int->Option R),bB cl (t:Int) kk=kk ((rep t:Nat):Int):=λkk=>by rw[u7 af];simp_all
   rw[iS G,aT z,aj,iS G,aP z,ox (by rw[hnd,I.len]),c476 hz (by grind),ak];show(bif !(fr (w.getD (rep i) []) b.bM).2 then _ else _)=_;have hfr:(fr (w.getD (rep i) []) b.bM).2=false:=by unfold fr;rw[e]
   rw[AY af,aV,MQ (by grind),ht,hgt,cH _ af ai af,bU ⟨af,af⟩,bU (by grind),aQ z af];simp_all[Ah]
theorem h453_7 {nds:List Node} (q:nds.length=l.length) {root:Int} {N:FSt}:∀(k i:Nat) (D:List (List cB)),l.length=i+k->QI l rep i 0 D->
  ∃G,QI l rep l.length 0 G/\∀res,(bB cl root λw=>Option.bind (f436 (FSt.mk (List.zipWith FA nds G)) w) λz=>some z)=some res->Ch l cl root (i:Int) N nds (D.map some)=some res:=by
 intro k;induction k with
 |zero=>intro i D Q I;have e:i=l.length:=af;subst e;refine⟨D,I,λres S=>WC ?_⟩;rw[cond_neg ai,ox (by rw[q,I.len])];omega
 |succ k U=>
  intro i D Q I;have K:i<l.length:=af;obtain⟨V,O,g1⟩:=h453_11 hn hF hA hcl hc rl q (root:=root) (o8:=N) (aN K) _ 0 _ rfl I;obtain⟨ys2,P,g2⟩:=U _ _ af O;refine⟨_,P,λres S=>WC ?_⟩;have hg:∀{R:Type} (L:Int->Option R),bB cl (i) L=L ((rep i)):=λL=>by rw[u7 af];simp_all
  grind
omit hF hA hcl hc rl in
theorem h453_3 {q:List Int} (K:q.length=l.length) {root:Int} {D:FSt} {res:FSt} (z:Ch l cl root 0 D (q.map λt=>⟨t,[]⟩) ((replicate l.length []).map some)=some res):∀(k i:Nat),l.length=i+k->
  Fj l cl q root (i:Int) D ((q.take i).map λt=>⟨t,[]⟩) (replicate i (some []))=some res:=by
 intro k;induction k with
 |zero=>intro i G;have e:i=l.length:=af;subst e;refine WB ?_;rw[cond_neg (by rw[aS];omega),jV af];rw[uF] at z;exact z
 |succ k I=>intro i G;have w:i<q.length:=af;refine WB ?_;rw[cond_pos (by rw[bz];omega),cQ w,cH _ (by rw[bC,fC];omega) ai af,bQ af];unfold Ah;have:=I (i+1) af;rw[dr,aN w,uQ,bZ] at this;exact this
theorem c453 {types:List Int} (S:types.length=l.length) {root:Nat} (hr:root<l.length):∃g w,f453 l cl types (root:Int)=some (nh (srG g) l.length (rep root))/\g.az.length=l.length/\QI l rep l.length 0 w/\(∀c,c<l.length->g.az[c]? =some ⟨types.getD c 0,w.getD c []⟩):=by
 have U:QI l rep 0 0 (replicate l.length []):=by
  have hz:∀x,(replicate l.length ([]:List cB)).getD x []=[]:=λx=>by grind
  exact⟨ai,(λc _ a Q=>by simp_all),(λc _=>by simp_all),(λx y _ O=>absurd O af),(λy _ b V=>by cases V)⟩
 obtain⟨w,I,g⟩:=h453_7 hn hF hA hcl hc rl (nds:=types.map _) (by simp_all) l.length 0 _ af U;have K:(List.zipWith FA (types.map λt=>(⟨t,[]⟩)) w).length=l.length:=by simp[S,I.len]
 have D:∀c,c<l.length->(List.zipWith FA (types.map λt=>(⟨t,[]⟩)) w)[c]? =some ⟨types.getD c 0,w.getD c []⟩:=λc q=>by grind
 refine⟨_,w,?_,K,I,D⟩;refine e453 ?_;have N:Tm _:=λx O=>by
  obtain⟨c,z⟩:=jJ.1 O;have q :=by have:=(bP.1 z).1;rw[K] at this;exact this
  rw[D c q] at z;cases z;have aw:=QI.aw hA rl I q;refine⟨eE aw.len hF,λa Q=> ?_⟩;have:=(aw.ok a Q).2;simp_all
 have L:∀{R:Type} (P:Int->Option R),bB cl (root) P=P ((rep root)):=λP=>by rw[u7 af];simp_all
 have G:=g (nh (srG ⟨List.zipWith FA (types.map λt=>⟨t,[]⟩) w⟩) l.length (rep root)) (by
  rw[L,c436 N (by simp_all) (by simp_all)]
  simp_all)
 exact h453_3 hn S G l.length 0 af
end
def W8 {T F:Nat} {sb:Int->Int->Prop} (hT:TO T sb) {l:List Node} {U:Gr} {W:List (Nat×Nat)} (hA:∀x∈l,AW F l.length x.cu) (us:∀x,x<l.length->U.sc x=(lG l).sc x) (ut:∀x,x<l.length->U.ty x=(lG l).ty x)
  {out ty:List Int} {ar:List (List cB)} {rep d:Nat->Nat} (J:JI 1 (AW F l.length) sbT (lG0 l) l.length W [] out ty ar rep d) {types:List Int}
  (Yr:∀c,c<l.length->(0<=types.getD c 0/\types.getD c 0<(T:Int))/\types.getD c 0=types.getD (rep c) 0/\sb ((lG l).ty c) (types.getD c 0)/\∀u,0<=u->u<(T:Int)->(∀x,x<l.length->rep x=rep c->sb ((lG l).ty x) u)->sb (types.getD c 0) u)
  {g:FSt} {ys:List (List cB)} (I:QI l rep l.length 0 ys) (hg:∀c,c<l.length->g.az[c]? =some ⟨types.getD c 0,ys.getD c []⟩):XL T F sb U l.length W (srG g) rep:=by
 have Q:∀c,c<l.length->LV g c=(LX (ys.getD c [])).map λa=>(a.bM,a.To.toNat):=λc hcl=>by unfold LV;rw[hg c hcl]
 have R:∀c,c<l.length->sU g c=types.getD c 0:=λc hcl=>by unfold sU;rw[hg c hcl]
 have aw:∀c,c<l.length->AW F l.length (ys.getD c []):=λc hcl=>QI.aw hA J.pi.rl I hcl
 have K:∀c,c<l.length->∀p∈LV g c,∃x y,l[x]? =some y/\rep x=c/\∃b∈y.cu,p=(b.bM,rep b.To.toNat):=λc hcl p z=>by rw[Q c hcl] at z;obtain⟨a,ha,rfl⟩:=aD.1 z;obtain⟨x,y,D,h2,b,G,rfl⟩:=I.from_ c hcl a ((wX _).2.2 a|>.1 ha);exact⟨x,y,D,h2,b,G,ai⟩
 have N:∀x y,l[x]? =some y->∀b∈y.cu,(b.bM,b.To.toNat)∈(lG l).sc x:=λx y V b G=>by obtain⟨w,e⟩:=bP.1 V;rw[My w,e];exact aD.2 ⟨b,G,rfl⟩
 have O:∀x y,x<l.length->y<l.length->rep x=rep y->∀p∈(lG l).sc x,∀q∈(lG l).sc y,p.1=q.1->rep p.2=rep q.2:=λx y w hy V p z q hq hpq=>by obtain⟨a,ha,D,h2⟩:=J.Za x w p z;obtain⟨b,G,h3,h4⟩:=J.Za y hy q hq;rw[<-V] at G;have:=nd_uniq (J.ao _ (J.pi.rl x w)).nd ha G af;rw[h2.done,this,h4.done]
 have conv:∀{C:Gr} {m:Nat->Nat},Te sb U l.length W C m->Te sbT (lG0 l) l.length W C m:=λP=>⟨λ_ _=>trivial,λx w p z=>P.ar x w p (by rw[us x w];exact z),P.eq⟩
 refine⟨⟨λx w p z=> ?_,λx w=> ?_,λx w p z=> ?_,λx w=> ?_⟩,J.pi.rl,J.pi.rr,λx w p z=> ?_,⟨λx w=> ?_,λx w p z=> ?_,λp z=>(J.seq p z).done⟩,λC m hC P x w=> ?_⟩
 .obtain⟨x',y,D,_,b,G,rfl⟩:=K x w p z;have:=(hA y (bf D)).ok b G;exact J.pi.rl _ af
 .show Cn (LV g x);rw[Q x w];unfold Cn;rw[kK];exact Xf (aw x w).nd
 .obtain⟨x',y,D,_,b,G,rfl⟩:=K x w p z;exact((hA y (bf D)).ok b G).1
 .show 0<=sU g x/\sU g x<_;rw[R x w];exact(Yr x w).1
 .obtain⟨x',y,D,_,b,G,rfl⟩:=K x w p z;have:=(hA y (bf D)).ok b G;exact J.pi.rr _ af
 .show sb _ (sU g (rep x));rw[R _ (J.pi.rl x w),ut x w,<-(Yr x w).2.1];exact(Yr x w).2.2.1
 .rw[us x w] at z;have hp':=z;rw[My w] at z;obtain⟨b,G,rfl⟩:=aD.1 z;obtain⟨a,ha,haf⟩:=I.all x _ (aN w) w b G;obtain⟨x2,y2,D,h2,b2,L,rfl⟩:=I.from_ _ (J.pi.rl x w) a ha;have S:=(bP.1 D).1;have e:=O x _ w S h2.symm _ hp' _ (N _ _ D _ L) haf.symm;show(b.bM,rep _)∈LV g _;rw[Q _ (J.pi.rl x w)];refine aD.2 ⟨_,(wX _).2.2 _|>.2 ha,?_⟩;rw[haf,aV];rw[e]
 .obtain⟨e1,_,_⟩:=J.dy C m hC (conv P);have hall:∀y,y<l.length->rep y=rep x->m y=m x:=λy hy e=>by grind
  refine⟨e1 x w,?_,λp z=> ?_⟩
  .show sb (sU g _) _;have h0:=P.ty x w;rw[R _ (J.pi.rl x w),<-(Yr x w).2.1];refine(Yr x w).2.2.2 _ (hT.rr h0).1 (hT.rr h0).2 λy hy e=> ?_
   rw[<-ut y hy,<-hall y hy e];exact P.ty y hy
  .obtain⟨x2,y2,D,h2,b2,L,rfl⟩:=K _ (J.pi.rl x w) p z;have S:=(bP.1 D).1;have:=P.ar _ S (b2.bM,b2.To.toNat) (by simp_all);have hb3:=(hA _ (bf D)).ok _ L;simp_all
section
variable {h:aU} {T F:Nat} {sb:Int->Int->Prop} (H:HM h T sb) {A B:FSt} (hA:Can T F A) (hB:Can T F B) (hF:F<=300) (hn:A.az.length+B.az.length<=1000000)
include H hA hB hF hn
theorem c440:(∃f,f440 h A B=some (f,true)/\Zq T F sb A B f)\/(f440 h A B=some (⟨[]⟩,false)/\∀C,Can T F C->Le sb A C->Le sb B C->False):=by
 have hl:(A.az++B.az.map (O8 A.az.length)).length=A.az.length+B.az.length:=ai;have g1:f448 A.az B.az=some (A.az++B.az.map (O8 A.az.length)):=c448 hn (hB.small af af);have z:∀x,(q:x<A.az.length)->(A.az++B.az.map (O8 A.az.length))[x]? =some A.az[x]:=λx q=>by rw[eX q,aN q]
 have D:∀x,(q:x<A.az.length+B.az.length)->(w:¬x<A.az.length)->(A.az++B.az.map (O8 A.az.length))[x]? =some (O8 A.az.length (B.az[x-A.az.length]'(by omega))):=λx q w=>by rw[fD af,dP,aN af];rfl
 have G:∀x∈A.az++B.az.map (O8 A.az.length),AW F (A.az++B.az.map (O8 A.az.length)).length x.cu:=λx q=>by
  rw[hl];rcases bA.1 q with q|q
  .have:=hA.ao q;exact⟨this.Aj.nd,λa P=>⟨(this.ok a P).1,(this.ok a P).2.1,by have:=(this.ok a P).2.2;omega⟩⟩
  .obtain⟨y,hy,rfl⟩:=aD.1 q;exact((hB.ao hy).sh af).aw
 have Uk:∀x∈A.az++B.az.map (O8 A.az.length),0<=x.ee/\x.ee<(T:Int):=λx q=>by
  rcases bA.1 q with q|q
  .exact hA.tyr q
  .obtain⟨y,hy,rfl⟩:=aD.1 q;show 0<=y.ee/\_;exact hB.tyr hy
 have us:∀x,x<A.az.length+B.az.length->(qZ A B).sc x=(lG (A.az++B.az.map (O8 A.az.length))).sc x:=λx q=>by
  rw[My (by rw[hl];exact q)];by_cases w:x<A.az.length
  .have e:=(bP.1 (z x w)).2;rw[e,(AN w).1,vW w];rfl
  .have e:=(bP.1 (D x q w)).2;rw[e,(AP w).1,vW af];show _=(yA _ _).map _;rw[Xe (hB.ao (cG _))];rfl
 have ut:∀x,x<A.az.length+B.az.length->(qZ A B).ty x=(lG (A.az++B.az.map (O8 A.az.length))).ty x:=λx q=>by
  rw[RU (by rw[hl];exact q)];by_cases w:x<A.az.length
  .have e:=(bP.1 (z x w)).2;rw[e,(AN w).2,zO w]
  .have e:=(bP.1 (D x q w)).2;rw[e,(AP w).2,zO af];rfl
 have Q:=hA.ne;have hb0:=hB.ne;have wH:0<T:=by have:=hA.go.tp 0 Q;omega
 clear z D;generalize hL:A.az++B.az.map (O8 A.az.length)=l at *;have S:l.length *F<=300000000:=by have:=nU (by omega:l.length<=1000000) hF;omega
 have g2:f449 (l.length:Int)=some (ids 0 l.length):=c449 af;have g3:f450 (ids 0 l.length) 0 (A.az.length:Int)=some (MX ((0:Nat):Int) A.az.length (ids 0 l.length)):=by have:=c450 (n:=l.length) (x:=0) (y:=A.az.length) af af af;rw[Nat.zero_min,Nat.zero_max] at this;exact this
 obtain⟨out,ty,ar,rep,d,g4,ho,J⟩:=c451 (F:=F) (l:=l) (lo:=0) (a:=A.az.length) af af S (c4 _) af G;have e0:(0:Int)=((0:Nat):Int):=rfl;rcases c452 H af Uk wH J.pi.len ho J.pi.rl J.pi.rr with⟨types,O,V,ht2⟩|⟨O,c,hcl,U⟩
 .obtain⟨g,ys,g6,hg1,I,R⟩:=c453 (F:=F) af af G J.pi.len ho J.pi.rl V (root:=0) af;have hU:=W8 H.to G (U:=qZ A B) (λx q=>us x af) (λx q=>ut x af) J ht2 I R;have K:l.length=A.az.length+B.az.length:=hl;rw[K] at hU g6;refine .inl ⟨_,e440 ?_,Qu H.to hA hB hU⟩;rw[g1,ak,g2,ak,g3,ak,g4,ak,O,ak,cond_neg (by rfl),e0,g6,ak]
 .refine .inr ⟨e440 ?_,λC hC h1 h2=> ?_⟩
  .rw[g1,ak,g2,ak,g3,ak,g4,ak,O,ak,cond_pos (by rfl)]
  .obtain⟨m,_,N⟩:=I5 hA hB hC h1 h2;have K:l.length=A.az.length+B.az.length:=hl;rw[<-K] at N;have conv:Te sbT (lG0 l) l.length [(0,A.az.length)] (qe C) m:=⟨λ_ _=>trivial,λx q p hp=>N.ar x q p (by rw[us x af];exact hp),N.eq⟩
   obtain⟨e1,_,_⟩:=J.dy _ m hC.Qd conv
   have L:=H.to.rr (N.ty c hcl);refine U ((qe C).ty (m c)) L.1 L.2 λx q hxc=> ?_
   have:m c=m x:=by rw[<-e1 x q,hxc]
   rw[this,<-ut x af];exact N.ty x q
end
end Go.Proofs.YtacapiamkgkkjaaGreatDoor.cl.pf
namespace Go.Proofs.YtacapiamkgkkjaaGreatDoor.cl.pf
open Go Go.AM
theorem Mx {N k:Nat} (h:k<N):(List.range N).idxOf k=k:=vF List.nodup_range (uH h)
def Da {T F:Nat} {g:FSt} (G:0<g.az.length) (z:GO T F (qe g) g.az.length) (hn:∀x∈g.az,∀a∈x.cu,0<=a.To) (L:kC (qe g) g.az.length 0=List.range g.az.length):Can T F g:=by
 refine⟨G,z,?_⟩;obtain⟨l⟩:=g;unfold nh;rw[L];congr 1;apply kT;intro i;rw[dP];by_cases D:i<l.length
 .rw[uH D,aN _];congr 1;have e1:sU _ i=l[i].ee:=zO _;have q:kY _ i=Zb l[i]:=vW _;show l[i]=(⟨sU _ i,(kY _ i).map _⟩)
  rw[e1,q];unfold Zb;rw[fk]
  have:l[i].cu=l[i].cu.map ((λp:Int×Nat=>(⟨p.1,((List.range l.length).idxOf p.2)⟩))∘λa=>(a.bM,a.To.toNat)):=by
   conv=>lhs;rw[<-pT l[i].cu]
   refine gR λa w=> ?_
   have I:=hn _ (cG _) a w;have K :=z.bd i D _ (by show _∈kY _ _;rw[q];exact aD.2 ⟨a,w,rfl⟩);show a=⟨_,_⟩
   rw[Mx K];obtain⟨x,y⟩:=a;simp at I⊢;congr 1;omega
  exact aR (Node.mk _) this
 simp_all
def FE (f:FSt) (tl:List Int):FSt:=⟨List.zipWith (λx t=>⟨t,x.cu⟩) f.az tl⟩
section
variable {f:FSt} {tl:List Int} (hl:tl.length=f.az.length)
include hl
theorem Cb:(FE f tl).az.length=f.az.length:=by show(List.zipWith _ _ _).length=_;simp_all
theorem E3 {i:Nat} (q:i<f.az.length):(FE f tl).az[i]? =some ⟨tl.getD i 0,f.az[i].cu⟩:=by show(List.zipWith _ _ _)[i]? =_;simp_all
theorem Vm:kY (FE f tl)=kY f:=by
 funext i;by_cases q:i<f.az.length
 .unfold kY;rw[E3 hl q,aN _];rfl
 grind[Xd,FE]
theorem acG {i:Nat} (q:i<f.az.length):sU (FE f tl) i=tl.getD i 0:=by unfold sU;rw[E3 hl q]
theorem Can.FE {T F:Nat} (h:Can T F f) {G:Nat} (L:∀i,i<f.az.length->0<=tl.getD i 0/\tl.getD i 0<(G:Int)):Can G F (FE f tl):=by
 have z:=Cb hl;have w:=Vm hl;refine Da (by rw[z];exact h.ne) ?_ ?_ ?_
 .rw[z];refine⟨?_,?_,?_,λi q=> ?_⟩
  .show Bd (kY _) _;rw[w];exact h.go.bd
  .show∀n,n<_->Cn (kY _ n);rw[w];exact h.go.Aj
  .show∀n,n<_->∀p∈kY _ n,_;rw[w];exact h.go.ft
  .show 0<=sU _ i/\sU _ i<_;simp_all[acG]
 .intro x K a I;obtain⟨i,q⟩:=jJ.1 K;have D:i<f.az.length:=by have:=(bP.1 q).1;omega
  rw[E3 hl D] at q;cases q;exact h.nn (cG _) I
 .rw[z]
  have:kC (qe (cl.pf.FE f tl)) f.az.length 0=kC (qe f) f.az.length 0:=by show nx (kY _) _ _ _=nx (kY f) _ _ _;rw[w]
  rw[this,h.ord]
end
structure HV (h:aU) (T F:Nat) (sb:Int->Int->Prop) (cD:Int->Int) (val:Int->Int->Int):Prop where
 hm:HM h T sb
 fl:h.bN.length=F
 int:∀f:Int,0<=f->f<(F:Int)->(h.bN.getD f.toNat default).Intro=cD f/\0<=cD f/\cD f<(T:Int)
 vl:∀t f:Int,0<=t->t<(T:Int)->0<=f->f<(F:Int)->sb (cD f) t->f355 h t f=some (val t f,true)/\f356 h t f=some (val t f,true)/\0<=val t f/\val t f<(T:Int)
 noval:∀t f:Int,0<=t->t<(T:Int)->0<=f->f<(F:Int)->¬sb (cD f) t->∃v,f355 h t f=some (v,false)/\f356 h t f=some (v,false)
 mono:∀t u f:Int,0<=f->f<(F:Int)->sb (cD f) t->sb t u->sb (val t f) (val u f)
 le:∀a b:Int,sb a b->a<=b
def Nh (sb:Int->Int->Prop) (cD:Int->Int) (val:Int->Int->Int) (f:FSt) (q:Nat->Int) (n:Nat):Prop:=∀p∈kY f n,sb (cD p.1) (q n)/\sb (val (q n) p.1) (q p.2)
def Co (sb:Int->Int->Prop) (cD:Int->Int) (val:Int->Int->Int) (f:FSt) (q:Nat->Int):Prop:=
 ∀n,n<f.az.length->sb (sU f n) (q n)/\Nh sb cD val f q n
structure TS (T:Nat) (sb:Int->Int->Prop) (cD:Int->Int) (val:Int->Int->Int) (f:FSt) (tl:List Int):Prop where
 len:tl.length=f.az.length
 rg:∀n,n<f.az.length->0<=tl.getD n 0/\tl.getD n 0<(T:Int)
 up:∀n,n<f.az.length->sb (sU f n) (tl.getD n 0)
 dy:∀τ,Co sb cD val f τ->∀n,n<f.az.length->sb (tl.getD n 0) (τ n)
def room (T:Nat) (tl:List Int):Nat:=(tl.map λt=>T-t.toNat).sum
def SF {T:Nat}:∀{tl:List Int} {n:Nat} {m:Int},n<tl.length->0<=tl.getD n 0->tl.getD n 0<m->m<(T:Int)->room T (tl.set n m)+1<=room T tl
 |[],n,m,h,_,_,_=>by simp at h
 |x::tl,0,m,_,q,w,z=>by have w:x<m:=w;simp[room,rM,bu,rN];omega
 |x::tl,n+1,m,h,q,w,z=>by
  have q :=by simpa using q
  have:=SF (by simp_all) q w z;simp[room,List.set_cons_succ,bu,rN] at *;omega
def room_le {T:Nat}:∀{tl:List Int},room T tl<=tl.length *T
 |[]=>by simp[room]
 |x::tl=>by have:=room_le (T:=T) (tl:=tl);simp[room,bu,rN,bw,nq] at *;omega
def Xb {T:Nat}:∀{a b:List Int},a.length=b.length->(∀n,n<a.length->0<=a.getD n 0/\a.getD n 0<=b.getD n 0/\b.getD n 0<(T:Int))->a=b\/room T b<room T a
 |[],[],_,_=> .inl rfl
 |x::a,y::b,h,q=>by
  have w:=q 0 ai;have D:0<=x/\x<=y/\y<(T):=w
  rcases Xb (a:=a) (b:=b) (by simp_all) (λn hn=>by
   have:=q (n+1) (by simp_all)
   assumption) with e|e
  .subst e;by_cases z:x=y
   .simp_all
   .simp[room,bu,rN];omega
  .simp[room,bu,rN] at *;omega
 |[],y::b,h,_=>by simp at h
 |x::a,[],h,_=>by simp at h
def Z9 {a b:List Int} (h:a.length=b.length) (z:∀n,n<a.length->a.getD n 0=b.getD n 0):a=b:=by apply nH h;intro i q w;have:=z i q;rw[bq,bq,aN q,aN w] at this;exact this
section
variable {h:aU} {T F:Nat} {sb:Int->Int->Prop} {cD:Int->Int} {val:Int->Int->Int} (H:HV h T F sb cD val) {f:FSt} (hf:Can T F f) (hn:f.az.length<=100000) (hT:T<=1000) (hF:F<=1000)
structure Ext (T:Nat) (sb:Int->Int->Prop) (N:Nat) (tl tl':List Int) (u:List Nat):Prop where
 mono:∀n,n<N->sb (tl.getD n 0) (tl'.getD n 0)
 chg:∀n,n<N->tl'.getD n 0=tl.getD n 0\/n∈u
 lt:∀n∈u,n<N
 room:u.length+room T tl'<=room T tl
include H
theorem Ext.refl {tl:List Int} (S:TS T sb cD val f tl):Ext T sb f.az.length tl tl []:=
 ⟨λn hn=>H.hm.to.refl (S.rg n hn).1 (S.rg n hn).2,λn _=> .inl rfl,(λn hn=>by cases hn),ai⟩
theorem Ext.trans {N:Nat} {a b c:List Int} {u v:List Nat} (q:Ext T sb N a b u) (w:Ext T sb N b c v):Ext T sb N a c (u++v):=by
 refine⟨λn hn=>H.hm.to.trans (q.mono n hn) (w.mono n hn),λn hn=> ?_,λn hn=> ?_,by have:=q.room;have:=w.room;grind⟩
 .rcases q.chg n hn with e|e
  .rcases w.chg n hn with z|z
   .omega
   simp_all
  simp_all
 .exact(bA.1 hn).elim (q.lt n) (w.lt n)
theorem TS.raise {tl:List Int} (S:TS T sb cD val f tl) {n:Nat} (z:n<f.az.length) {t m:Int} (G:sb (tl.getD n 0) m) (L:sb t m) (I:∀c,sb (tl.getD n 0) c->sb t c->sb m c) (K:∀D,Co sb cD val f D->sb t (D n)):TS T sb cD val f (tl.set n m):=by
 have hl:n<tl.length:=by rw[S.len];exact z
 refine⟨by rw[ji];exact S.len,λx q=> ?_,λx q=> ?_,λD w x q=> ?_⟩<;>rw[e9]<;>by_cases e:n=x
 .rw[aB ⟨e,af⟩];exact H.hm.to.rr G
 .rw[aA (λh=>e h.1)];exact S.rg x q
 .rw[aB ⟨e,af⟩];subst e;exact H.hm.to.trans (S.up n q) G
 .rw[aA (λh=>e h.1)];exact S.up x q
 .rw[aB ⟨e,af⟩];subst e;exact I _ (S.dy _ w n q) (K _ w)
 .rw[aA (λh=>e h.1)];exact S.dy _ w x q
theorem Ext.one {tl:List Int} (S:TS T sb cD val f tl) {n:Nat} (q:n<f.az.length) {m:Int} (D:sb (tl.getD n 0) m) (G:m≠tl.getD n 0):Ext T sb f.az.length tl (tl.set n m) [n]:=by
 have hl:n<tl.length:=by rw[S.len];exact q
 have I:=H.le _ _ D;have z:=H.hm.to.rr D;refine⟨λx w=> ?_,λx w=> ?_,λx w=> ?_,?_⟩
 .rw[e9];by_cases e:n=x
  .simp_all
  .rw[aA (λh=>e h.1)];exact H.hm.to.refl (S.rg x w).1 (S.rg x w).2
 .grind
 .simp_all
 .have:=SF hl (S.rg n q).1 af z.2;grind
theorem Nh.ext {tl w:List Int} {u:List Nat} (hf:Can T F f) (E:Ext T sb f.az.length tl w u) {n:Nat} (q:n<f.az.length) (I:Nh sb cD val f (λx=>tl.getD x 0) n):n∈u\/Nh sb cD val f (λx=>w.getD x 0) n:=by
 rcases E.chg n q with e|e
 .right;intro p G;have D:=I p G;have z:=hf.bd n q p G;simp only[e] at *;exact⟨D.1,H.hm.to.trans D.2 (E.mono _ z)⟩
 simp_all
include hn
theorem c472 {tl:List Int} (S:TS T sb cD val f tl) {w:List Int} (R:w.length<=1000000000) {n:Nat} (q:n<f.az.length) {t:Int} (N:0<=t/\t<(T:Int)) (L:∀G,Co sb cD val f G->sb t (G n)):
  (∃z u,f472 (n:Int) t h.Types h.bN tl w=some (true,z,w++iT u)/\TS T sb cD val f z/\Ext T sb f.az.length tl z u/\sb t (z.getD n 0))\/
  (f472 (n:Int) t h.Types h.bN tl w=some (false,tl,w)/\∀G,Co sb cD val f G->False):=by
 have hl:n<tl.length:=by rw[S.len];exact q
 have r:=S.rg n q;rcases H.hm.mt _ t r.1 r.2 N.1 N.2 with⟨m,I,O,K,P,Q⟩|⟨m,I,O,K⟩
 .by_cases e:m=tl.getD n 0
  .refine .inl ⟨tl,[],e472 ?_,S,Ext.refl H S,by simp_all⟩;rw[sG hl,I,ak,cond_neg (by rfl),sG hl,cond_neg (by simp_all)];simp[iT]
  .refine .inl ⟨_,_,e472 ?_,S.raise H q K P Q L,Ext.one H S q K e,by simp_all⟩;rw[sG hl,I,ak,cond_neg (by rfl),sG hl,cond_pos (by simp_all),sG hl,bU ⟨rfl,rfl⟩,cH _ af ai af];rfl
 .refine .inr ⟨e472 ?_,λG D=>K _ (S.dy _ D n q) (L _ D)⟩;rw[sG hl,I,ak,cond_pos (by rfl)]
include hf hF
theorem arcN {n:Nat} (q:n<f.az.length) {a:cB} (w:a∈f.az[n].cu):(0<=a.bM/\a.bM<(F:Int))/\(0<=a.To/\a.To<(f.az.length:Int))/\(a.bM,a.To.toNat)∈kY f n:=by have:=(hf.ao (cG _)).ok a w;refine⟨this.1,this.2,?_⟩;rw[vW q];exact aD.2 ⟨a,w,rfl⟩
theorem h461_8 {n:Nat} (q:n<f.az.length):∀(xs:List cB) (k:Nat) (tl w:List Int),f.az[n].cu.drop k=xs->TS T sb cD val f tl->w.length+room T tl<=1000000000->(∀a∈f.az[n].cu,sb (cD a.bM) (tl.getD n 0))->
  (∃z u,Ci (n:Int) f.az[n].cu (f.az[n].cu.length:Int) (k:Int) h.Types h.bN tl w=some (true,z,w++iT u)/\TS T sb cD val f z/\Ext T sb f.az.length tl z u/\(n∈u\/∀a∈xs,sb (val (z.getD n 0) a.bM) (z.getD a.To.toNat 0)))\/
  ((∃z w',Ci (n:Int) f.az[n].cu (f.az[n].cu.length:Int) (k:Int) h.Types h.bN tl w=some (false,z,w'))/\∀N,Co sb cD val f N->False):=by
 have hal:=(hf.ao (cG q)).len;intro xs;induction xs with
 |nil=>intro k tl w D S _ _;refine .inl ⟨tl,[],HZ ?_,S,Ext.refl H S, .inr λa I=>by cases I⟩;rw[bp D,au];simp[iT]
 |cons a xs ih=>
  intro k tl w D S hw hint;have I:=bf (cn D);obtain⟨G,hto,hsc⟩:=arcN H hf hn hF q I;obtain⟨t,ht⟩:=fU hto.1;have Q:t<f.az.length:=af;have R:a.To.toNat=t:=af;have hl:n<tl.length:=by rw[S.len];exact q
  have r:=S.rg n q;obtain⟨v1,_,v2⟩:=H.vl _ a.bM r.1 r.2 G.1 G.2 (hint a I);have P:∀N,Co sb cD val f N->sb (val (tl.getD n 0) a.bM) (N t):=λN U=>by have:=((U n q).2 _ hsc).2;rw[R] at this;exact H.hm.to.trans (H.mono _ _ _ G.1 G.2 (hint a I) (S.dy N U n q)) this
  have hlt:=eC D;rcases c472 H hn S (w:=w) af Q v2 P with⟨Xx,u1,g1,S1,V,b1⟩|⟨g1,L⟩
  .have K:∀a∈f.az[n].cu,sb (cD a.bM) (Xx.getD n 0):=λa I=>H.hm.to.trans (hint a I) (V.mono n q)
   have hr:=V.room;rcases ih (k+1) Xx (w++iT u1) (aJ D) S1 (by simp[iT];omega) K with⟨Vw,u2,g2,S2,E2,O⟩|⟨⟨Vw,w2,g2⟩,L⟩
   .refine .inl ⟨Vw,u1++u2,HZ ?_,S2,V.trans H E2,?_⟩
    .rw[aT D,aj,aP D,sG hl,show(aU.mk h.Types h.bN)=h from rfl,v1,ak,cond_neg (by rfl),ht,g1,bg,cond_neg (by rfl),aQ D af,g2];simp[iT]
    .rcases O with O|O
     .exact .inl (gQ _ O)
     .rcases V.chg n q with e1|e1
      .rcases E2.chg n q with e2|e2
       .right;intro b hb;rcases aI.1 hb with rfl|hb
        .rw[e2,e1,R];exact H.hm.to.trans b1 (E2.mono t Q)
        .exact O b hb
       .exact .inl (gQ _ e2)
      .exact .inl (cT _ e1)
   .refine .inr ⟨⟨Vw,w2,HZ ?_⟩,L⟩;rw[aT D,aj,aP D,sG hl,show(aU.mk h.Types h.bN)=h from rfl,v1,ak,cond_neg (by rfl),ht,g1,bg,cond_neg (by rfl),aQ D af,g2]
  .refine .inr ⟨⟨tl,w,HZ ?_⟩,L⟩;rw[aT D,aj,aP D,sG hl,show(aU.mk h.Types h.bN)=h from rfl,v1,ak,cond_neg (by rfl),ht,g1,bg,cond_pos (by rfl)]
theorem h461_2 {n:Nat} (z:n<f.az.length):∀(xs:List cB) (k:Nat) (tl w:List Int),f.az[n].cu.drop k=xs->TS T sb cD val f tl->w.length+room T tl<=1000000000->(∀a∈f.az[n].cu.take k,sb (cD a.bM) (tl.getD n 0))->
  (∃q u,DG (n:Int) f.az[n].cu (f.az[n].cu.length:Int) (k:Int) f h.Types h.bN tl w=some (true,q,w++iT u)/\TS T sb cD val f q/\Ext T sb f.az.length tl q u/\(n∈u\/Nh sb cD val f (λx=>q.getD x 0) n))\/
  ((∃q w',DG (n:Int) f.az[n].cu (f.az[n].cu.length:Int) (k:Int) f h.Types h.bN tl w=some (false,q,w'))/\∀τ,Co sb cD val f τ->False):=by
 have hal:=(hf.ao (cG z)).len;intro xs;induction xs with
 |nil=>
  intro k tl w D S hw hint;rw[jV (mh D)] at hint;have step:∀r,Ci (n:Int) f.az[n].cu (f.az[n].cu.length:Int) 0 h.Types h.bN tl w=some r->DG (n:Int) f.az[n].cu (f.az[n].cu.length:Int) (k:Int) f h.Types h.bN tl w=some r:=λr hr=>by refine Og ?_;rw[bp D,au,cQ z];exact hr
  rcases h461_8 H hf hn hF z f.az[n].cu 0 tl w rfl S hw hint with⟨q,u,K,P,N,b⟩|⟨⟨q,w',K⟩,I⟩
  .refine .inl ⟨q,u,step _ K,P,N,b.imp id λb p hp=> ?_⟩;rw[vW z] at hp;obtain⟨a,O,rfl⟩:=aD.1 hp;exact⟨H.hm.to.trans (hint a O) (N.mono n z),b a O⟩
  .exact .inr ⟨⟨q,w',step _ K⟩,I⟩
 |cons a xs ih=>
  intro k tl w D S hw hint;have O:=bf (cn D);obtain⟨G,hto,R⟩:=arcN H hf hn hF z O;obtain⟨V,i2⟩:=H.int a.bM G.1 G.2;have hlt:=eC D;have hfl:=H.fl;rcases c472 H hn S (w:=w) af z i2 (λτ U=>((U n z).2 _ R).1) with⟨Xx,u1,K,P,N,b1⟩|⟨K,I⟩
  .have hr:=N.room
   rcases ih (k+1) Xx (w++iT u1) (aJ D) P (by simp[iT];omega) (λb L=>by
    rw[dr,cn D] at L;rcases bA.1 L with L|L
    .exact H.hm.to.trans (hint b L) (N.mono n z)
    .simp at L;subst L;exact b1) with⟨Vw,u2,Q,S2,E2,b2⟩|⟨⟨Vw,w2,Q⟩,I⟩
   .refine .inl ⟨Vw,u1++u2,Og ?_,S2,N.trans H E2,b2.imp (λh=>gQ _ h) id⟩;rw[aT D,aj,aP D,xR G.1 af,V,K,bg,cond_neg (by rfl),aQ D af,Q];simp[iT]
   .refine .inr ⟨⟨Vw,w2,Og ?_⟩,I⟩;rw[aT D,aj,aP D,xR G.1 af,V,K,bg,cond_neg (by rfl),aQ D af,Q]
  .refine .inr ⟨⟨tl,w,Og ?_⟩,I⟩;rw[aT D,aj,aP D,xR G.1 af,V,K,bg,cond_pos (by rfl)]
theorem c461 {n:Nat} (z:n<f.az.length) {tl w:List Int} (S:TS T sb cD val f tl) (L:w.length+room T tl<=1000000000):
  (∃q u,f461 f (n:Int) h.Types h.bN tl w=some (true,q,w++iT u)/\TS T sb cD val f q/\Ext T sb f.az.length tl q u/\(n∈u\/Nh sb cD val f (λx=>q.getD x 0) n))\/
  ((∃q D,f461 f (n:Int) h.Types h.bN tl w=some (false,q,D))/\∀N,Co sb cD val f N->False):=by
 have step:∀r,DG (n) f.az[n].cu (f.az[n].cu.length) 0 f h.Types h.bN tl w=some r->f461 f (n) h.Types h.bN tl w=some r:=λr P=>by simp_all[e461,cQ]
 rcases h461_2 H hf hn hF z _ 0 _ w rfl S L (λa I=>by cases I) with⟨q,u,G,O⟩|⟨⟨q,D,G⟩,K⟩
 .grind
 simp_all
def XH (T:Nat) (sb:Int->Int->Prop) (cD:Int->Int) (val:Int->Int->Int) (f:FSt) (res:Option (FSt×Bool)):Prop:=
 (∃tl,res=some (FE f tl,true)/\TS T sb cD val f tl/\∀n,n<f.az.length->Nh sb cD val f (λx=>tl.getD x 0) n)\/
 (res=some (⟨[]⟩,false)/\∀q,Co sb cD val f q->False)
omit H hf hn hF in
theorem c462 {l:List Node} (hl:l.length<=1000000):f462 l=some l:=by refine xN (E:=EN Q27) ?_;refine tM ?_;have q:Nat.ble ((List.map Node.enc l).length *32) 140737488355328=true:=uC (by rw[bC];omega);show(bif Nat.ble ((List.map Node.enc l).length *32) 140737488355328 then _ else _)=_;rw[q];rfl
omit H hf hF in
theorem Wb {Q:aU} {R:FSt} {a b:List fG} {c d:List cU} {q z:List Node} {w tl:List Int} (hl:tl.length=f.az.length):∀(k i:Nat) (s:List Node),f.az.length=i+k->s.length=f.az.length->
  (∀j,(D:j<f.az.length)->s[j]? =some (if j<i then⟨tl.getD j 0,f.az[j].cu⟩ else f.az[j]))->
  Ff (f.az.length:Int) (i:Int) Q R a c s q b d tl w z=some (FE f tl,true):=by
 intro k;induction k with
 |zero=>
  intro i s O N I;refine RQ ?_;have e:i=f.az.length:=af;subst e;rw[cond_neg (by rw[aS];omega)]
  have:s=(FE f tl).az:=by
   apply kT;intro j;by_cases D:j<f.az.length
   .rw[I j D,aB D,E3 hl D]
   .rw[gu af,gu (by rw[Cb hl];omega)]
  rw[this]
 |succ k P=>
  intro i s O N I;have K:i<f.az.length:=af;refine RQ ?_;have G:=I i K;rw[aA (rI _)] at G;rw[cond_pos (by rw[bz];omega),sG af,AY af,aV,kZ G,bQ af];refine P (i+1) _ af (by rw[ji];exact N) λj D=> ?_
  rw[ny];by_cases e:i=j
  .subst e;rw[aB rfl,aB af,aB af]
  .rw[aA e,I j D];by_cases L:j<i
   .rw[aB L,aB af]
   .rw[aA L,aA af]
theorem h434_9 {o4:FSt} {b:List fG} {d:List cU}:∀(M i:Nat) (w:List Nat) (tl:List Int),(w.length-i)+room T tl<=M->i<=w.length->w.length+room T tl<=1000000000->TS T sb cD val f tl->(∀n∈w,n<f.az.length)->
  (∀n,n<f.az.length->n∈w.drop i\/Nh sb cD val f (λx=>tl.getD x 0) n)->
  XH T sb cD val f (DF (i:Int) h f o4 h.Types h.bN b d tl (iT w)):=by
 intro M;induction M with
 |zero=>intro i w tl hM hi hw S q L;have e:i=w.length:=af;subst e;refine .inl ⟨tl,Oe ?_,S,λn hn=>(L n hn).elim (λh=>by simp_all) id⟩;rw[cond_neg (by grind[decide_eq_false_iff_not,iT]),c462 af,ak];exact Wb hn S.len f.az.length 0 f.az af rfl λj hj=>by simp
 |succ M ih=>
  intro i w tl hM hi hw S q L;by_cases G:i<w.length
  .have hd:w.drop i=w[i]::w.drop (i+1):=jg G;have P:=q w[i] (cG G);generalize hwn:w[i]=n at *;have hol:(iT w).length=w.length:=by simp[iT]
   have I:(iT w).getD i 0=(n:Int):=by unfold iT;simp_all
   rcases c461 H hf hn hF P S (w:=iT w) af with⟨z,u,K,S1,O,b1⟩|⟨⟨z,w',K⟩,Q⟩
   .have hr:=O.room;have D:iT w++iT u=iT (w++u):=by simp[iT]
    rw[D] at K
    have:=ih (i+1) (w++u) z (by grind) (by grind) (by grind) S1 (λx N=>(bA.1 N).elim (q x) (O.lt x)) (λx N=>by
     rw[uP af];by_cases e:x=n
     .grind
     .rcases L x N with V|V
      .simp_all
      .exact(Nh.ext H hf O N V).imp (λh=>gQ _ h) id)
    have step:∀r,DF ((i+1:Nat):Int) h f o4 h.Types h.bN b d z (iT (w++u))=some r->DF (i:Int) h f o4 h.Types h.bN b d tl (iT w)=some r:=λr hr=>by refine Oe ?_;rw[cond_pos (by simp_all),sG af,I,K,bg,cond_neg (by rfl),bQ af];omega
    rcases this with⟨Vw,R,U⟩|⟨R,U⟩
    .exact .inl ⟨_,step _ R,U⟩
    .exact .inr ⟨step _ R,U⟩
   .refine .inr ⟨Oe ?_,Q⟩;rw[cond_pos (by simp_all),sG af,I,K,bg,cond_pos (by rfl)]
  .have e:i=w.length:=af;refine .inl ⟨tl,Oe ?_,S,λn hn=>(L n hn).elim (λh=>by simp_all) id⟩;rw[cond_neg (by grind[iT]),c462 af,ak];exact Wb hn S.len f.az.length 0 _ af rfl λj hj=>by simp
theorem TS.init:TS T sb cD val f (f.az.map (·.ee)):=by
 have e:∀n,n<f.az.length->(f.az.map (·.ee)).getD n 0=sU f n:=λn q=>by grind[zO]
 refine⟨ai,λn q=> ?_,λn q=> ?_,λz w n q=> ?_⟩<;>rw[e n q]
 .exact hf.go.tp n q
 .exact H.hm.to.refl (hf.go.tp n q).1 (hf.go.tp n q).2
 .exact(w n q).1
include hT
theorem c434:XH T sb cD val f (f434 h f):=by
 have S:=TS.init H hf hn hF;have w:=room_le (T:=T) (tl:=f.az.map (·.ee));have L :=nU hn hT;have G:=h434_9 H hf hn hF (o4:=⟨[]⟩) (b:=[]) (d:=[]) _ 0 _ _ (aW _) (c4 _) (by grind) S (λn hn=>gp.1 hn) (λn hn=> .inl (by simp_all));have key:∀r,DF 0 h f ⟨[]⟩ h.Types h.bN [] [] (f.az.map (·.ee)) (iT (List.range f.az.length))=some r->∀(k i),f.az.length=i+k->
   Pz f.az (f.az.length) (i) h f ⟨[]⟩ h.Types h.bN [] [] ((f.az.take i).map (·.ee)) (iT (List.range i))=some r:=by
  intro r w k;induction k with
  |zero=>intro i I;refine abk ?_;grind
  |succ k K=>intro i I;have q:i<f.az.length:=af;refine abk ?_;rw[cond_pos (by grind),cQ q,cH _ aH ai af,cH _ (by simp[iT];omega) ai af,bQ af];have:=K (i+1) af;rw[dr,bZ,kL] at this;simp_all[iT]
 have step :=λr w=>e434 (key r w f.az.length 0 af)
 rcases G with⟨tl,z,D⟩|⟨z,D⟩
 .exact .inl ⟨tl,step _ z,D⟩
 .exact .inr ⟨step _ z,D⟩
end
