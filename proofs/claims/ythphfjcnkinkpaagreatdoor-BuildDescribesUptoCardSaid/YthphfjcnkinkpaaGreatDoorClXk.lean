/- Unification by the least closed relation (the reference's). -/
import Derived.Test.YthphfjcnkinkpaaGreatDoorClXi
set_option linter.all false
open List (replicate)
namespace Go.Proofs.YthphfjcnkinkpaaGreatDoor.cl.pf
open Go Go.AM
section
variable {h:aK} {T:Nat} {sb:Int->Int->Prop} (H:HM h T sb) {l:List Node} (hn:l.length<=1000000) (SN:∀x∈l,0<=x.cR/\x.cR<(T:Int)) (uG:0<T)
variable {cl:List Int} {rep:Nat->Nat} (hcl:cl.length=l.length) (hc:∀x,x<l.length->cl.getD x 0=(rep x:Nat)) (rl:∀x,x<l.length->rep x<l.length) (rr:∀x,x<l.length->rep (rep x)=rep x)
structure TI (T:Nat) (sb:Int->Int->Prop) (l:List Node) (rep:Nat->Nat) (i:Nat) (tl:List Int):Prop where
 len:tl.length=l.length
 ok:∀c,c<l.length->rep c=c->(0<=tl.getD c 0/\tl.getD c 0<(T:Int))/\(∀x,x<i->rep x=c->sb ((lG l).ty x) (tl.getD c 0))/\∀u,0<=u->u<(T:Int)->(∀x,x<i->rep x=c->sb ((lG l).ty x) u)->sb (tl.getD c 0) u
theorem S8 {x:Nat} (q:x<l.length):(lG l).ty x=l[x].cR:=kP _
theorem Na {x:Nat} (q:x<l.length):(lG l).sc x=l[x].bJ.map λa=>(a.bw,a.To.toNat):=by show List.map _ _=_;simp_all
include H hn SN hcl hc rl rr
theorem h452_3:∀(k i:Nat) (tl:List Int),l.length=i+k->TI T sb l rep i tl->
  (∃G,TI T sb l rep l.length G/\∀res,Fx l cl 0 G=some res->B8 l cl (i:Int) h tl=some res)\/
  (B8 l cl (i:Int) h tl=some ([],false)/\∃c,c<l.length/\∀u,0<=u->u<(T:Int)->(∀x,x<l.length->rep x=c->sb ((lG l).ty x) u)->False):=by
 intro k;induction k with
 |zero=>intro i tl hi I;have e:i=l.length:=af;subst e;refine .inl ⟨tl,I,λres hr=>VG ?_⟩;grind
 |succ k ih=>
  intro i tl hi I;have q:i<l.length:=af;have K:=rl i q;have Q:∀{R:Type} (L:Int->Option R),bf cl (i:Int) L=L ((rep i:Nat):Int):=λL=>by rw[vk af];exact aU L (hc i q)
  obtain⟨o1,o2,o3⟩:=I.ok (rep i) K (rr i q);have EI:=SN _ (bB q);have O:=S8 q;rcases H.mt _ _ o1.1 o1.2 EI.1 EI.2 with⟨t,_,U,V,m4,m5⟩|⟨t,_,U,V⟩
  .have I2:TI T sb l rep (i+1) (tl.set (rep i) t):=by
    refine⟨by rw[gV];exact I.len,λc hcl P=> ?_⟩;rw[eF];by_cases e:rep i=c
    .subst e;rw[aB ⟨rfl,by rw[I.len];omega⟩];refine⟨H.to.rr V,λx hx w=> ?_,λu z D S=> ?_⟩
     .by_cases N:x=i
      .subst N;rw[O];exact m4
      .exact H.to.trans (o2 x af w) V
     grind
    .rw[az (λh=>e h.1)];obtain⟨q1,q2,q3⟩:=I.ok c hcl P;refine⟨q1,λx hx w=> ?_,λu z D S=>q3 u z D λx hx w=>S x af w⟩;by_cases N:x=i
     .subst N;exact absurd w e
     .exact q2 x af w
   have step:∀r,B8 l cl ((i+1)) h (tl.set (rep i) t)=some r->B8 l cl (i) h tl=some r:=by intro r hr;refine VG ?_;rw[cond_pos (by grind),Q,qE (by rw[I.len];omega),bU q,U,aj,cond_neg (by rfl),Q,qE (by rw[I.len];omega),bM af];exact hr
   rcases ih _ _ af I2 with⟨G,g1,g2⟩|⟨g1,g2⟩
   .grind
   simp_all
  .refine .inr ⟨VG ?_,_,K,λu z D S=> ?_⟩
   .rw[cond_pos (by grind),Q,qE (by rw[I.len];omega),bU q,U,aj,cond_pos (by rfl)]
   grind
omit H SN in
theorem h452_10 {tl:List Int} (hl:tl.length=l.length):∀(k i:Nat) (s:List Int),l.length=i+k->s.length=l.length->(∀x,x<l.length->s.getD x 0=if x<i then tl.getD (rep x) 0 else tl.getD x 0)->
  ∃z,Fx l cl (i:Int) s=some (z,true)/\z.length=l.length/\∀x,x<l.length->z.getD x 0=tl.getD (rep x) 0:=by
 intro k;induction k with
 |zero=>
  intro i s S K D;refine⟨s,XW ?_,K,λx w=> ?_⟩
  .rw[cond_neg (by rw[aQ];omega)]
  .rw[D x w,aB af]
 |succ k V=>
  intro i s S K D;have q:i<l.length:=af;have I:=rl i q;have Q:∀{R:Type} (G:Int->Option R),bf cl (i:Int) G=G ((rep i:Nat):Int):=λG=>by rw[vk af];exact aU G (hc i q)
  have U:s.getD (rep i) 0=tl.getD (rep i) 0:=by rw[D _ I,rr i q];split<;>rfl
  obtain⟨z,N,O,P⟩:=V (i+1) (s.set i (tl.getD (rep i) 0)) af (by rw[gV];exact K) λx w=>by
   rw[eF];by_cases e:i=x
   .subst e;rw[aB ⟨rfl,af⟩,aB af]
   .rw[az (λh=>e h.1),D x w];by_cases L:x<i
    .rw[aB L,aB af]
    .rw[az L,az af]
  refine⟨z,XW ?_,O,P⟩;rw[cond_pos (by rw[bg];omega),Q,qE af,U,qE af,aT,bM af];exact N
include uG in
theorem c452:(∃s,f452 h l cl=some (s,true)/\s.length=l.length/\∀c,c<l.length->(0<=s.getD c 0/\s.getD c 0<(T:Int))/\s.getD c 0=s.getD (rep c) 0/\sb ((lG l).ty c) (s.getD c 0)/\∀u,0<=u->u<(T:Int)->(∀x,x<l.length->rep x=rep c->sb ((lG l).ty x) u)->sb (s.getD c 0) u)\/
  (f452 h l cl=some ([],false)/\∃c,c<l.length/\∀u,0<=u->u<(T:Int)->(∀x,x<l.length->rep x=c->sb ((lG l).ty x) u)->False):=by
 have P:∀x,x<l.length->(replicate l.length (0:Int)).getD x 0=0:=λx z=>by rw[bA,nT,aB z];rfl
 have G:TI T sb l rep 0 (replicate l.length 0):=⟨ai,λc hcl N=>by
  rw[P c hcl]
  exact⟨⟨af,af⟩,λx z=>absurd z af,λu K L _=>H.to.top K L⟩⟩
 have pre:∀r,B8 l cl 0 h (replicate l.length 0)=some r->f452 h l cl=some r:=λr O=>by refine e452 ?_;rw[bT ⟨af,by omega,by omega,af⟩,aT];exact O
 rcases h452_3 H hn SN hcl hc rl rr l.length 0 _ af G with⟨tl,I,g⟩|⟨q,w⟩
 .obtain⟨s,q,w,D⟩:=h452_10 hn hcl hc rl rr I.len l.length 0 tl af I.len (λx _=>by rw[az af]);refine .inl ⟨s,pre _ (g _ q),w,λc hcl=> ?_⟩;obtain⟨Q,R,S⟩:=I.ok (rep c) (rl c hcl) (rr c hcl);rw[D c hcl,D _ (rl c hcl),rr c hcl];exact⟨Q,rfl,R c hcl rfl,S⟩
 .exact .inr ⟨pre _ q,w⟩
end
section
variable {l:List Node} {F:Nat} (hn:l.length<=1000000) (hF:F<=1000000) (hA:∀x∈l,AW F l.length x.bJ)
variable {cl:List Int} {rep:Nat->Nat} (hcl:cl.length=l.length) (hc:∀x,x<l.length->cl.getD x 0=(rep x:Nat)) (rl:∀x,x<l.length->rep x<l.length)
structure QI (l:List Node) (rep:Nat->Nat) (i k:Nat) (ys:List (List cz)):Prop where
 len:ys.length=l.length
 from_:∀c,c<l.length->∀a∈ys.getD c [],∃x y,l[x]? =some y/\rep x=c/\∃b∈y.bJ,a=⟨b.bw,(rep b.To.toNat:Nat)⟩
 nd:∀c,c<l.length->((ys.getD c []).map (·.bw)).Nodup
 all:∀x y,l[x]? =some y->x<i->∀b∈y.bJ,∃a∈ys.getD (rep x) [],a.bw=b.bw
 some_:∀y,l[i]? =some y->∀b∈y.bJ.take k,∃a∈ys.getD (rep i) [],a.bw=b.bw
theorem Jl {qN:Node->List cz->Node}:∀(xs:List Node) (q:List (List cz)),xs.length=q.length->uD qN xs (q.map some)=some (List.zipWith qN xs q)
 |[],[],_=>rfl
 |x::xs,y::q,h=>by have:=Jl (qN:=qN) xs q (by simp_all);simp_all[uD]
 |[],y::q,h=>by simp at h
 |x::xs,[],h=>by simp at h
theorem qd {R:Type} {qN:Node->List cz->Node} {xs:List Node} {q:List (List cz)} (h:xs.length=q.length) (k:List Node->Option R):yf qN xs (q.map some) k=k (List.zipWith qN xs q):=by simp_all[yf,Jl]
theorem Nr {R:Type} {q:List (List cz)} {i:Nat} (h:i<q.length) (k:List cz->List (Option (List cz))->Option R):Wq (q.map some) i k=k (q.getD i []) ((q.map some).set i none):=by simp_all[Wq]
abbrev GJ:Node->List cz->Node:=λx z=>{ x with bJ:=z }
include hA rl in
theorem QI.aw {i k:Nat} {w:List (List cz)} (I:QI l rep i k w) {c:Nat} (hcl:c<l.length):AW F l.length (w.getD c []):=by refine⟨I.nd c hcl,λa D=> ?_⟩;obtain⟨x,y,q,K,b,G,rfl⟩:=I.from_ c hcl a D;have z:=(hA y (aR q)).ok b G;refine⟨z.1,by show 0<=((rep b.To.toNat:Nat):Int);omega,?_⟩;have:=rl b.To.toNat af;show((rep b.To.toNat:Nat):Int)<_;omega
include hn hF hA hcl hc rl
theorem h453_11 {D:List Node} (hnd:D.length=l.length) {root:Int} {o8:FSt} {i:Nat} {y:Node} (G:l[i]? =some y):∀(xs:List cz) (k:Nat) (w:List (List cz)),y.bJ.drop k=xs->QI l rep i k w->
  ∃L,QI l rep (i+1) 0 L/\∀res,CB l cl root ((i+1:Nat):Int) o8 D (L.map some)=some res->B9 l cl root (i:Int) ((rep i:Nat):Int) (k:Int) o8 D (w.map some)=some res:=by
 have hil:i<l.length:=(bR.1 G).1;have Q:=rl i hil;have hyA:=hA y (aR G);have hyl:=hyA.len;intro xs;induction xs with
 |nil=>
  intro k w z I;refine⟨w,⟨I.len,I.from_,I.nd,λx S hx hlt b hb=> ?_,λS K b hb=>by cases hb⟩,λres hr=>Kc ?_⟩
  .by_cases e:x=i
   .subst e;rw[G] at hx;cases hx;refine I.some_ y G b ?_;simp_all[gK,kJ,z]
   .exact I.all x S hx af b hb
  .rw[gM G,aW z,aA,bM af];omega
 |cons b xs ih=>
  intro k w z I;have hb:=aR (bV z);have hbo:=hyA.ok b hb;obtain⟨t,ht⟩:=dM hbo.2.1;have SN:t<l.length:=af;have htt:b.To.toNat=t:=af;have hlt:=dN z;have hyc:=(QI.aw hA rl I Q).len;have hz:(List.zipWith GJ D w)[rep i]? =some (GJ (D.getD (rep i) default) (w.getD (rep i) [])):=by rw[List.getElem?_zipWith,aM (by omega:rep i<D.length),aM (by rw[I.len];omega:rep i<w.length),bA,bA,aM (by omega:rep i<D.length),aM (by rw[I.len];omega:rep i<w.length)];rfl
  cases e:fa (w.getD (rep i) []) b.bw with
  |some a=>
   obtain⟨ha1,ha2⟩:=zL e
   have I2:QI l rep i (k+1) w:=⟨I.len,I.from_,I.nd,I.all,λS K U q=>by
    rw[G] at K;cases K;rw[cM,bV z] at q;rcases bu.1 q with q|q
    .exact I.some_ y G U q
    .simp at q;subst q;exact⟨a,ha1,ha2⟩⟩
   obtain⟨L,g1,g2⟩:=ih (k+1) w (aH z) I2;refine⟨L,g1,λres hr=>Kc ?_⟩;rw[gM G,aP z,ak,gM G,aJ z,qd (by rw[hnd,I.len]),aaS hz (by show(w.getD (rep i) []).length<=_;omega),aj];show(bif !(fr (w.getD (rep i) []) b.bw).2 then _ else _)=_;unfold fr;rw[e,cond_neg (by rfl),aN z af];exact g2 res hr
  |none=>
   have hno:=Ez e;have I2:QI l rep i (k+1) (w.set (rep i) (w.getD (rep i) []++[⟨b.bw,(rep t:Nat)⟩])):=by
    have O:rep i<w.length:=by rw[I.len];exact Q
    refine⟨by rw[gV];exact I.len,λc N a P=> ?_,λc N=> ?_,λx S hx hlt' U q=> ?_,λS K U q=> ?_⟩
    .rw[eF] at P;by_cases V:rep i=c
     .subst V;rw[aB ⟨rfl,O⟩] at P;rcases bu.1 P with P|P
      .exact I.from_ _ Q a P
      grind
     .rw[az (λh=>V h.1)] at P;exact I.from_ c N a P
    .rw[eF];by_cases V:rep i=c
     .subst V;rw[aB ⟨rfl,O⟩,cL,ig];refine⟨I.nd _ Q,by simp,λu hu v hv=> ?_⟩;grind
     .rw[az (λh=>V h.1)];exact I.nd c N
    .obtain⟨a,P,hf⟩:=I.all x S hx hlt' U q;grind
    .rw[G] at K;cases K;rw[eF,aB ⟨rfl,O⟩];rw[cM,bV z] at q;rcases bu.1 q with q|q
     .obtain⟨a,P,hf⟩:=I.some_ y G U q;grind
     simp_all
   obtain⟨L,g1,g2⟩:=ih (k+1) _ (aH z) I2;refine⟨L,g1,λres hr=>Kc ?_⟩;have hgt:∀{R:Type} (kk:Int->Option R),bf cl (t:Int) kk=kk ((rep t:Nat):Int):=λkk=>by rw[vk af];simp_all
   rw[gM G,aP z,ak,gM G,aJ z,qd (by rw[hnd,I.len]),aaS hz (by grind),aj];show(bif !(fr (w.getD (rep i) []) b.bw).2 then _ else _)=_;have hfr:(fr (w.getD (rep i) []) b.bw).2=false:=by unfold fr;rw[e]
   rw[Ay af,aT,Nr (by grind),ht,hgt,cC _ af ai af,bT ⟨af,af⟩,bT (by grind),aN z af];simp_all[AT]
theorem h453_7 {nds:List Node} (q:nds.length=l.length) {root:Int} {N:FSt}:∀(k i:Nat) (D:List (List cz)),l.length=i+k->QI l rep i 0 D->
  ∃G,QI l rep l.length 0 G/\∀res,(bf cl root λw=>Option.bind (f436 (FSt.mk (List.zipWith GJ nds G)) w) λz=>some z)=some res->CB l cl root (i:Int) N nds (D.map some)=some res:=by
 intro k;induction k with
 |zero=>intro i D Q I;have e:i=l.length:=af;subst e;refine⟨D,I,λres S=>XY ?_⟩;rw[cond_neg ai,qd (by rw[q,I.len])];omega
 |succ k U=>
  intro i D Q I;have K:i<l.length:=af;obtain⟨V,O,g1⟩:=h453_11 hn hF hA hcl hc rl q (root:=root) (o8:=N) (aM K) _ 0 _ rfl I;obtain⟨ys2,P,g2⟩:=U _ _ af O;refine⟨_,P,λres S=>XY ?_⟩;have hg:∀{R:Type} (L:Int->Option R),bf cl (i) L=L ((rep i)):=λL=>by rw[vk af];simp_all
  grind
omit hF hA hcl hc rl in
theorem h453_3 {q:List Int} (K:q.length=l.length) {root:Int} {D:FSt} {res:FSt} (z:CB l cl root 0 D (q.map λt=>⟨t,[]⟩) ((replicate l.length []).map some)=some res):∀(k i:Nat),l.length=i+k->
  Fy l cl q root (i:Int) D ((q.take i).map λt=>⟨t,[]⟩) (replicate i (some []))=some res:=by
 intro k;induction k with
 |zero=>intro i G;have e:i=l.length:=af;subst e;refine XX ?_;rw[cond_neg (by rw[aQ];omega),gK af];rw[uQ] at z;exact z
 |succ k I=>intro i G;have w:i<q.length:=af;refine XX ?_;rw[cond_pos (by rw[bg];omega),bU w,cC _ (by rw[bz,e7];omega) ai af,bM af];unfold AT;have:=I (i+1) af;rw[cM,aM w,qa,cL] at this;exact this
theorem c453 {types:List Int} (S:types.length=l.length) {root:Nat} (hr:root<l.length):∃g w,f453 l cl types (root:Int)=some (kI (Ab g) l.length (rep root))/\g.au.length=l.length/\QI l rep l.length 0 w/\(∀c,c<l.length->g.au[c]? =some ⟨types.getD c 0,w.getD c []⟩):=by
 have U:QI l rep 0 0 (replicate l.length []):=by
  have hz:∀x,(replicate l.length ([]:List cz)).getD x []=[]:=λx=>by grind
  exact⟨ai,(λc _ a Q=>by simp_all),(λc _=>by simp_all),(λx y _ O=>absurd O af),(λy _ b V=>by cases V)⟩
 obtain⟨w,I,g⟩:=h453_7 hn hF hA hcl hc rl (nds:=types.map _) (by simp_all) l.length 0 _ af U;have K:(List.zipWith GJ (types.map λt=>(⟨t,[]⟩)) w).length=l.length:=by simp[S,I.len]
 have D:∀c,c<l.length->(List.zipWith GJ (types.map λt=>(⟨t,[]⟩)) w)[c]? =some ⟨types.getD c 0,w.getD c []⟩:=λc q=>by grind
 refine⟨_,w,?_,K,I,D⟩;refine e453 ?_;have N:NR _:=λx O=>by
  obtain⟨c,z⟩:=iG.1 O;have q :=by have:=(bR.1 z).1;rw[K] at this;exact this
  rw[D c q] at z;cases z;have aw:=QI.aw hA rl I q;refine⟨fU aw.len hF,λa Q=> ?_⟩;have:=(aw.ok a Q).2;simp_all
 have L:∀{R:Type} (P:Int->Option R),bf cl (root) P=P ((rep root)):=λP=>by rw[vk af];simp_all
 have G:=g (kI (Ab ⟨List.zipWith GJ (types.map λt=>⟨t,[]⟩) w⟩) l.length (rep root)) (by
  rw[L,c436 N (by simp_all) (by simp_all)]
  simp_all)
 exact h453_3 hn S G l.length 0 af
end
theorem Yl {T F:Nat} {sb:Int->Int->Prop} (hT:TO T sb) {l:List Node} {U:Gr} {W:List (Nat×Nat)} (hA:∀x∈l,AW F l.length x.bJ) (us:∀x,x<l.length->U.sc x=(lG l).sc x) (ut:∀x,x<l.length->U.ty x=(lG l).ty x)
  {out ty:List Int} {ar:List (List cz)} {rep d:Nat->Nat} (J:JI 1 (AW F l.length) sbT (lG0 l) l.length W [] out ty ar rep d) {types:List Int}
  (EI:∀c,c<l.length->(0<=types.getD c 0/\types.getD c 0<(T:Int))/\types.getD c 0=types.getD (rep c) 0/\sb ((lG l).ty c) (types.getD c 0)/\∀u,0<=u->u<(T:Int)->(∀x,x<l.length->rep x=rep c->sb ((lG l).ty x) u)->sb (types.getD c 0) u)
  {g:FSt} {ys:List (List cz)} (I:QI l rep l.length 0 ys) (hg:∀c,c<l.length->g.au[c]? =some ⟨types.getD c 0,ys.getD c []⟩):YX T F sb U l.length W (Ab g) rep:=by
 have Q:∀c,c<l.length->A2 g c=(AY (ys.getD c [])).map λa=>(a.bw,a.To.toNat):=λc hcl=>by unfold A2;rw[hg c hcl]
 have R:∀c,c<l.length->mI g c=types.getD c 0:=λc hcl=>by unfold mI;rw[hg c hcl]
 have aw:∀c,c<l.length->AW F l.length (ys.getD c []):=λc hcl=>QI.aw hA J.pi.rl I hcl
 have K:∀c,c<l.length->∀p∈A2 g c,∃x y,l[x]? =some y/\rep x=c/\∃b∈y.bJ,p=(b.bw,rep b.To.toNat):=λc hcl p z=>by rw[Q c hcl] at z;obtain⟨a,ha,rfl⟩:=aG.1 z;obtain⟨x,y,D,h2,b,G,rfl⟩:=I.from_ c hcl a ((qM _).2.2 a|>.1 ha);exact⟨x,y,D,h2,b,G,ai⟩
 have N:∀x y,l[x]? =some y->∀b∈y.bJ,(b.bw,b.To.toNat)∈(lG l).sc x:=λx y V b G=>by obtain⟨w,e⟩:=bR.1 V;rw[Na w,e];exact aG.2 ⟨b,G,rfl⟩
 have O:∀x y,x<l.length->y<l.length->rep x=rep y->∀p∈(lG l).sc x,∀q∈(lG l).sc y,p.1=q.1->rep p.2=rep q.2:=λx y w hy V p z q hq hpq=>by obtain⟨a,ha,D,h2⟩:=J.sar x w p z;obtain⟨b,G,h3,h4⟩:=J.sar y hy q hq;rw[<-V] at G;have:=nd_uniq (J.ao _ (J.pi.rl x w)).nd ha G af;rw[h2.done,this,h4.done]
 have conv:∀{C:Gr} {m:Nat->Nat},Ux sb U l.length W C m->Ux sbT (lG0 l) l.length W C m:=λP=>⟨λ_ _=>trivial,λx w p z=>P.ar x w p (by rw[us x w];exact z),P.eq⟩
 refine⟨⟨λx w p z=> ?_,λx w=> ?_,λx w p z=> ?_,λx w=> ?_⟩,J.pi.rl,J.pi.rr,λx w p z=> ?_,⟨λx w=> ?_,λx w p z=> ?_,λp z=>(J.seq p z).done⟩,λC m hC P x w=> ?_⟩
 .obtain⟨x',y,D,_,b,G,rfl⟩:=K x w p z;have:=(hA y (aR D)).ok b G;exact J.pi.rl _ af
 .show yb (A2 g x);rw[Q x w];unfold yb;rw[jd];exact P3 (aw x w).nd
 .obtain⟨x',y,D,_,b,G,rfl⟩:=K x w p z;exact((hA y (aR D)).ok b G).1
 .show 0<=mI g x/\mI g x<_;rw[R x w];exact(EI x w).1
 .obtain⟨x',y,D,_,b,G,rfl⟩:=K x w p z;have:=(hA y (aR D)).ok b G;exact J.pi.rr _ af
 .show sb _ (mI g (rep x));rw[R _ (J.pi.rl x w),ut x w,<-(EI x w).2.1];exact(EI x w).2.2.1
 .rw[us x w] at z;have hp':=z;rw[Na w] at z;obtain⟨b,G,rfl⟩:=aG.1 z;obtain⟨a,ha,haf⟩:=I.all x _ (aM w) w b G;obtain⟨x2,y2,D,h2,b2,L,rfl⟩:=I.from_ _ (J.pi.rl x w) a ha;have S:=(bR.1 D).1;have e:=O x _ w S h2.symm _ hp' _ (N _ _ D _ L) haf.symm;show(b.bw,rep _)∈A2 g _;rw[Q _ (J.pi.rl x w)];refine aG.2 ⟨_,(qM _).2.2 _|>.2 ha,?_⟩;rw[haf,aT];rw[e]
 .obtain⟨e1,_,_⟩:=J.dG C m hC (conv P);have hall:∀y,y<l.length->rep y=rep x->m y=m x:=λy hy e=>by grind
  refine⟨e1 x w,?_,λp z=> ?_⟩
  .show sb (mI g _) _;have h0:=P.ty x w;rw[R _ (J.pi.rl x w),<-(EI x w).2.1];refine(EI x w).2.2.2 _ (hT.rr h0).1 (hT.rr h0).2 λy hy e=> ?_
   rw[<-ut y hy,<-hall y hy e];exact P.ty y hy
  .obtain⟨x2,y2,D,h2,b2,L,rfl⟩:=K _ (J.pi.rl x w) p z;have S:=(bR.1 D).1;have:=P.ar _ S (b2.bw,b2.To.toNat) (by simp_all);have hb3:=(hA _ (aR D)).ok _ L;simp_all
section
variable {h:aK} {T F:Nat} {sb:Int->Int->Prop} (H:HM h T sb) {A B:FSt} (hA:Can T F A) (hB:Can T F B) (hF:F<=300) (hn:A.au.length+B.au.length<=1000000)
include H hA hB hF hn
theorem c440:(∃f,f440 h A B=some (f,true)/\Uw T F sb A B f)\/(f440 h A B=some (⟨[]⟩,false)/\∀C,Can T F C->Le sb A C->Le sb B C->False):=by
 have hl:(A.au++B.au.map (PZ A.au.length)).length=A.au.length+B.au.length:=ai;have g1:f448 A.au B.au=some (A.au++B.au.map (PZ A.au.length)):=c448 hn (hB.small af af);have z:∀x,(q:x<A.au.length)->(A.au++B.au.map (PZ A.au.length))[x]? =some A.au[x]:=λx q=>by rw[fV q,aM q]
 have D:∀x,(q:x<A.au.length+B.au.length)->(w:¬x<A.au.length)->(A.au++B.au.map (PZ A.au.length))[x]? =some (PZ A.au.length (B.au[x-A.au.length]'(by omega))):=λx q w=>by rw[gD af,dK,aM af];rfl
 have G:∀x∈A.au++B.au.map (PZ A.au.length),AW F (A.au++B.au.map (PZ A.au.length)).length x.bJ:=λx q=>by
  rw[hl];rcases bu.1 q with q|q
  .have:=hA.ao q;exact⟨this.wT.nd,λa P=>⟨(this.ok a P).1,(this.ok a P).2.1,by have:=(this.ok a P).2.2;omega⟩⟩
  .obtain⟨y,hy,rfl⟩:=aG.1 q;exact((hB.ao hy).sh af).aw
 have SN:∀x∈A.au++B.au.map (PZ A.au.length),0<=x.cR/\x.cR<(T:Int):=λx q=>by
  rcases bu.1 q with q|q
  .exact hA.Um q
  .obtain⟨y,hy,rfl⟩:=aG.1 q;show 0<=y.cR/\_;exact hB.Um hy
 have us:∀x,x<A.au.length+B.au.length->(ry A B).sc x=(lG (A.au++B.au.map (PZ A.au.length))).sc x:=λx q=>by
  rw[Na (by rw[hl];exact q)];by_cases w:x<A.au.length
  .have e:=(bR.1 (z x w)).2;rw[e,(Bm w).1,sN w];rfl
  .have e:=(bR.1 (D x q w)).2;rw[e,(Bn w).1,sN af];show _=(yV _ _).map _;rw[Yp (hB.ao (bB _))];rfl
 have ut:∀x,x<A.au.length+B.au.length->(ry A B).ty x=(lG (A.au++B.au.map (PZ A.au.length))).ty x:=λx q=>by
  rw[S8 (by rw[hl];exact q)];by_cases w:x<A.au.length
  .have e:=(bR.1 (z x w)).2;rw[e,(Bm w).2,oa w]
  .have e:=(bR.1 (D x q w)).2;rw[e,(Bn w).2,oa af];rfl
 have Q:=hA.ne;have hb0:=hB.ne;have uG:0<T:=by have:=hA.go.tp 0 Q;omega
 clear z D;generalize hL:A.au++B.au.map (PZ A.au.length)=l at *;have S:l.length *F<=300000000:=by have:=nU (by omega:l.length<=1000000) hF;omega
 have g2:f449 (l.length:Int)=some (ids 0 l.length):=c449 af;have g3:f450 (ids 0 l.length) 0 (A.au.length:Int)=some (Nx ((0:Nat):Int) A.au.length (ids 0 l.length)):=by have:=c450 (n:=l.length) (x:=0) (y:=A.au.length) af af af;rw[Nat.zero_min,Nat.zero_max] at this;exact this
 obtain⟨out,ty,ar,rep,d,g4,ho,J⟩:=c451 (F:=F) (l:=l) (lo:=0) (a:=A.au.length) af af S (cZ _) af G;have e0:(0:Int)=((0:Nat):Int):=rfl;rcases c452 H af SN uG J.pi.len ho J.pi.rl J.pi.rr with⟨types,O,V,ht2⟩|⟨O,c,hcl,U⟩
 .obtain⟨g,ys,g6,hg1,I,R⟩:=c453 (F:=F) af af G J.pi.len ho J.pi.rl V (root:=0) af;have hU:=Yl H.to G (U:=ry A B) (λx q=>us x af) (λx q=>ut x af) J ht2 I R;have K:l.length=A.au.length+B.au.length:=hl;rw[K] at hU g6;refine .inl ⟨_,e440 ?_,RO H.to hA hB hU⟩;rw[g1,aj,g2,aj,g3,aj,g4,aj,O,aj,cond_neg (by rfl),e0,g6,aj]
 .refine .inr ⟨e440 ?_,λC hC h1 h2=> ?_⟩
  .rw[g1,aj,g2,aj,g3,aj,g4,aj,O,aj,cond_pos (by rfl)]
  .obtain⟨m,_,N⟩:=Jv hA hB hC h1 h2;have K:l.length=A.au.length+B.au.length:=hl;rw[<-K] at N;have conv:Ux sbT (lG0 l) l.length [(0,A.au.length)] (jI C) m:=⟨λ_ _=>trivial,λx q p hp=>N.ar x q p (by rw[us x af];exact hp),N.eq⟩
   obtain⟨e1,_,_⟩:=J.dG _ m hC.LW conv
   have L:=H.to.rr (N.ty c hcl);refine U ((jI C).ty (m c)) L.1 L.2 λx q hxc=> ?_
   have:m c=m x:=by rw[<-e1 x q,hxc]
   rw[this,<-ut x af];exact N.ty x q
end
end Go.Proofs.YthphfjcnkinkpaaGreatDoor.cl.pf
namespace Go.Proofs.YthphfjcnkinkpaaGreatDoor.cl.pf
open Go Go.AM
def ZB {N k:Nat} (h:k<N):(List.range N).idxOf k=k:=vW List.nodup_range (p9 h)
def Dp {T F:Nat} {g:FSt} (G:0<g.au.length) (z:GO T F (jI g) g.au.length) (hn:∀x∈g.au,∀a∈x.bJ,0<=a.To) (L:jo (jI g) g.au.length 0=List.range g.au.length):Can T F g:=by
 refine⟨G,z,?_⟩;obtain⟨l⟩:=g;unfold kI;rw[L];congr 1;apply kO;intro i;rw[dK];by_cases D:i<l.length
 .rw[p9 D,aM _];congr 1;have e1:mI _ i=l[i].cR:=oa _;have q:iD _ i=PX l[i]:=sN _;show l[i]=(⟨mI _ i,(iD _ i).map _⟩)
  rw[e1,q];unfold PX;rw[e8]
  have:l[i].bJ=l[i].bJ.map ((λp:Int×Nat=>(⟨p.1,((List.range l.length).idxOf p.2)⟩))∘λa=>(a.bw,a.To.toNat)):=by
   conv=>lhs;rw[<-pY l[i].bJ]
   refine iE λa w=> ?_
   have I:=hn _ (bB _) a w;have K :=z.bd i D _ (by show _∈iD _ _;rw[q];exact aG.2 ⟨a,w,rfl⟩);show a=⟨_,_⟩
   rw[ZB K];obtain⟨x,y⟩:=a;simp at I⊢;congr 1;omega
  exact aU (Node.mk _) this
 simp_all
def AX (f:FSt) (tl:List Int):FSt:=⟨List.zipWith (λx t=>⟨t,x.bJ⟩) f.au tl⟩
section
variable {f:FSt} {tl:List Int} (hl:tl.length=f.au.length)
include hl
theorem xw:(AX f tl).au.length=f.au.length:=by show(List.zipWith _ _ _).length=_;simp_all
theorem Fh {i:Nat} (q:i<f.au.length):(AX f tl).au[i]? =some ⟨tl.getD i 0,f.au[i].bJ⟩:=by show(List.zipWith _ _ _)[i]? =_;simp_all
theorem BZ:iD (AX f tl)=iD f:=by
 funext i;by_cases q:i<f.au.length
 .unfold iD;rw[Fh hl q,aM _];rfl
 grind[PW,AX]
theorem Gq {i:Nat} (q:i<f.au.length):mI (AX f tl) i=tl.getD i 0:=by unfold mI;rw[Fh hl q]
theorem Can.AX {T F:Nat} (h:Can T F f) {G:Nat} (L:∀i,i<f.au.length->0<=tl.getD i 0/\tl.getD i 0<(G:Int)):Can G F (AX f tl):=by
 have z:=xw hl;have w:=BZ hl;refine Dp (by rw[z];exact h.ne) ?_ ?_ ?_
 .rw[z];refine⟨?_,?_,?_,λi q=> ?_⟩
  .show Bd (iD _) _;rw[w];exact h.go.bd
  .show∀n,n<_->yb (iD _ n);rw[w];exact h.go.wT
  .show∀n,n<_->∀p∈iD _ n,_;rw[w];exact h.go.ft
  .show 0<=mI _ i/\mI _ i<_;simp_all[Gq]
 .intro x K a I;obtain⟨i,q⟩:=iG.1 K;have D:i<f.au.length:=by have:=(bR.1 q).1;omega
  rw[Fh hl D] at q;cases q;exact h.nn (bB _) I
 .rw[z]
  have:jo (jI (cl.pf.AX f tl)) f.au.length 0=jo (jI f) f.au.length 0:=by show nh (iD _) _ _ _=nh (iD f) _ _ _;rw[w]
  rw[this,h.ord]
theorem rty_at {q:List Int}:oW (AX f tl) q=oW f q:=by
 have w:=BZ hl;have key:∀(q) (n),Av (jI (AX f tl)) n q=Av (jI f) n q:=by intro q;induction q with
  |nil=>intro n;rfl
  |cons g q z=>
   intro n;show(match Ac (iD _ n) g with|some k=>_|none=>_)=(match Ac (iD f n) g with|some k=>_|none=>_)
   simp_all
 simp_all
end
structure HV (h:aK) (T F:Nat) (sb:Int->Int->Prop) (bQ:Int->Int) (val:Int->Int->Int):Prop where
 hm:HM h T sb
 fl:h.bC.length=F
 int:∀f:Int,0<=f->f<(F:Int)->(h.bC.getD f.toNat default).Intro=bQ f/\0<=bQ f/\bQ f<(T:Int)
 vl:∀t f:Int,0<=t->t<(T:Int)->0<=f->f<(F:Int)->sb (bQ f) t->f355 h t f=some (val t f,true)/\f356 h t f=some (val t f,true)/\0<=val t f/\val t f<(T:Int)
 noval:∀t f:Int,0<=t->t<(T:Int)->0<=f->f<(F:Int)->¬sb (bQ f) t->∃v,f355 h t f=some (v,false)/\f356 h t f=some (v,false)
 mono:∀t u f:Int,0<=f->f<(F:Int)->sb (bQ f) t->sb t u->sb (val t f) (val u f)
 le:∀a b:Int,sb a b->a<=b
def HY (sb:Int->Int->Prop) (bQ:Int->Int) (val:Int->Int->Int) (f:FSt) (q:Nat->Int) (n:Nat):Prop:=∀p∈iD f n,sb (bQ p.1) (q n)/\sb (val (q n) p.1) (q p.2)
def A5 (sb:Int->Int->Prop) (bQ:Int->Int) (val:Int->Int->Int) (f:FSt) (q:Nat->Int):Prop:=
 ∀n,n<f.au.length->sb (mI f n) (q n)/\HY sb bQ val f q n
structure TS (T:Nat) (sb:Int->Int->Prop) (bQ:Int->Int) (val:Int->Int->Int) (f:FSt) (tl:List Int):Prop where
 len:tl.length=f.au.length
 rg:∀n,n<f.au.length->0<=tl.getD n 0/\tl.getD n 0<(T:Int)
 up:∀n,n<f.au.length->sb (mI f n) (tl.getD n 0)
 dG:∀τ,A5 sb bQ val f τ->∀n,n<f.au.length->sb (tl.getD n 0) (τ n)
def room (T:Nat) (tl:List Int):Nat:=(tl.map λt=>T-t.toNat).sum
def T0 {T:Nat}:∀{tl:List Int} {n:Nat} {m:Int},n<tl.length->0<=tl.getD n 0->tl.getD n 0<m->m<(T:Int)->room T (tl.set n m)+1<=room T tl
 |[],n,m,h,_,_,_=>by simp at h
 |x::tl,0,m,_,q,w,z=>by have w:x<m:=w;simp[room,lU,bS,rZ];omega
 |x::tl,n+1,m,h,q,w,z=>by
  have q :=by simpa using q
  have:=T0 (by simp_all) q w z;simp[room,List.set_cons_succ,bS,rZ] at *;omega
def room_le {T:Nat}:∀{tl:List Int},room T tl<=tl.length *T
 |[]=>by simp[room]
 |x::tl=>by have:=room_le (T:=T) (tl:=tl);simp[room,bS,rZ,bD,nt] at *;omega
def Ym {T:Nat}:∀{a b:List Int},a.length=b.length->(∀n,n<a.length->0<=a.getD n 0/\a.getD n 0<=b.getD n 0/\b.getD n 0<(T:Int))->a=b\/room T b<room T a
 |[],[],_,_=> .inl rfl
 |x::a,y::b,h,q=>by
  have w:=q 0 ai;have D:0<=x/\x<=y/\y<(T):=w
  rcases Ym (a:=a) (b:=b) (by simp_all) (λn hn=>by
   have:=q (n+1) (by simp_all)
   assumption) with e|e
  .subst e;by_cases z:x=y
   .simp_all
   .simp[room,bS,rZ];omega
  .simp[room,bS,rZ] at *;omega
 |[],y::b,h,_=>by simp at h
 |x::a,[],h,_=>by simp at h
def abk {a b:List Int} (h:a.length=b.length) (z:∀n,n<a.length->a.getD n 0=b.getD n 0):a=b:=by apply nK h;intro i q w;have:=z i q;rw[bA,bA,aM q,aM w] at this;exact this
section
variable {h:aK} {T F:Nat} {sb:Int->Int->Prop} {bQ:Int->Int} {val:Int->Int->Int} (H:HV h T F sb bQ val) {f:FSt} (hf:Can T F f) (hn:f.au.length<=140000) (hT:T<=1000) (hF:F<=1000)
structure Ext (T:Nat) (sb:Int->Int->Prop) (N:Nat) (tl tl':List Int) (u:List Nat):Prop where
 mono:∀n,n<N->sb (tl.getD n 0) (tl'.getD n 0)
 chg:∀n,n<N->tl'.getD n 0=tl.getD n 0\/n∈u
 lt:∀n∈u,n<N
 room:u.length+room T tl'<=room T tl
include H
theorem Ext.refl {tl:List Int} (S:TS T sb bQ val f tl):Ext T sb f.au.length tl tl []:=
 ⟨λn hn=>H.hm.to.refl (S.rg n hn).1 (S.rg n hn).2,λn _=> .inl rfl,(λn hn=>by cases hn),ai⟩
theorem Ext.trans {N:Nat} {a b c:List Int} {u v:List Nat} (q:Ext T sb N a b u) (w:Ext T sb N b c v):Ext T sb N a c (u++v):=by
 refine⟨λn hn=>H.hm.to.trans (q.mono n hn) (w.mono n hn),λn hn=> ?_,λn hn=> ?_,by have:=q.room;have:=w.room;grind⟩
 .rcases q.chg n hn with e|e
  .rcases w.chg n hn with z|z
   .omega
   simp_all
  simp_all
 .exact(bu.1 hn).elim (q.lt n) (w.lt n)
theorem TS.raise {tl:List Int} (S:TS T sb bQ val f tl) {n:Nat} (z:n<f.au.length) {t m:Int} (G:sb (tl.getD n 0) m) (L:sb t m) (I:∀c,sb (tl.getD n 0) c->sb t c->sb m c) (K:∀D,A5 sb bQ val f D->sb t (D n)):TS T sb bQ val f (tl.set n m):=by
 have hl:n<tl.length:=by rw[S.len];exact z
 refine⟨by rw[gV];exact S.len,λx q=> ?_,λx q=> ?_,λD w x q=> ?_⟩<;>rw[eF]<;>by_cases e:n=x
 .rw[aB ⟨e,af⟩];exact H.hm.to.rr G
 .rw[az (λh=>e h.1)];exact S.rg x q
 .rw[aB ⟨e,af⟩];subst e;exact H.hm.to.trans (S.up n q) G
 .rw[az (λh=>e h.1)];exact S.up x q
 .rw[aB ⟨e,af⟩];subst e;exact I _ (S.dG _ w n q) (K _ w)
 .rw[az (λh=>e h.1)];exact S.dG _ w x q
theorem Ext.one {tl:List Int} (S:TS T sb bQ val f tl) {n:Nat} (q:n<f.au.length) {m:Int} (D:sb (tl.getD n 0) m) (G:m≠tl.getD n 0):Ext T sb f.au.length tl (tl.set n m) [n]:=by
 have hl:n<tl.length:=by rw[S.len];exact q
 have I:=H.le _ _ D;have z:=H.hm.to.rr D;refine⟨λx w=> ?_,λx w=> ?_,λx w=> ?_,?_⟩
 .rw[eF];by_cases e:n=x
  .simp_all
  .rw[az (λh=>e h.1)];exact H.hm.to.refl (S.rg x w).1 (S.rg x w).2
 .grind
 .simp_all
 .have:=T0 hl (S.rg n q).1 af z.2;grind
theorem HY.ext {tl w:List Int} {u:List Nat} (hf:Can T F f) (E:Ext T sb f.au.length tl w u) {n:Nat} (q:n<f.au.length) (I:HY sb bQ val f (λx=>tl.getD x 0) n):n∈u\/HY sb bQ val f (λx=>w.getD x 0) n:=by
 rcases E.chg n q with e|e
 .right;intro p G;have D:=I p G;have z:=hf.bd n q p G;simp only[e] at *;exact⟨D.1,H.hm.to.trans D.2 (E.mono _ z)⟩
 simp_all
include hn
theorem c472 {tl:List Int} (S:TS T sb bQ val f tl) {w:List Int} (R:w.length<=1000000000) {n:Nat} (q:n<f.au.length) {t:Int} (N:0<=t/\t<(T:Int)) (L:∀G,A5 sb bQ val f G->sb t (G n)):
  (∃z u,f472 (n:Int) t h.Types h.bC tl w=some (true,z,w++fZ u)/\TS T sb bQ val f z/\Ext T sb f.au.length tl z u/\sb t (z.getD n 0))\/
  (f472 (n:Int) t h.Types h.bC tl w=some (false,tl,w)/\∀G,A5 sb bQ val f G->False):=by
 have hl:n<tl.length:=by rw[S.len];exact q
 have r:=S.rg n q;rcases H.hm.mt _ t r.1 r.2 N.1 N.2 with⟨m,I,O,K,P,Q⟩|⟨m,I,O,K⟩
 .by_cases e:m=tl.getD n 0
  .refine .inl ⟨tl,[],e472 ?_,S,Ext.refl H S,by simp_all⟩;rw[qE hl,I,aj,cond_neg (by rfl),qE hl,cond_neg (by simp_all)];simp[fZ]
  .refine .inl ⟨_,_,e472 ?_,S.raise H q K P Q L,Ext.one H S q K e,by simp_all⟩;rw[qE hl,I,aj,cond_neg (by rfl),qE hl,cond_pos (by simp_all),qE hl,bT ⟨rfl,rfl⟩,cC _ af ai af];rfl
 .refine .inr ⟨e472 ?_,λG D=>K _ (S.dG _ D n q) (L _ D)⟩;rw[qE hl,I,aj,cond_pos (by rfl)]
include hf hF
theorem arcN {n:Nat} (q:n<f.au.length) {a:cz} (w:a∈f.au[n].bJ):(0<=a.bw/\a.bw<(F:Int))/\(0<=a.To/\a.To<(f.au.length:Int))/\(a.bw,a.To.toNat)∈iD f n:=by have:=(hf.ao (bB _)).ok a w;refine⟨this.1,this.2,?_⟩;rw[sN q];exact aG.2 ⟨a,w,rfl⟩
theorem h461_8 {n:Nat} (q:n<f.au.length):∀(xs:List cz) (k:Nat) (tl w:List Int),f.au[n].bJ.drop k=xs->TS T sb bQ val f tl->w.length+room T tl<=1000000000->(∀a∈f.au[n].bJ,sb (bQ a.bw) (tl.getD n 0))->
  (∃z u,CC (n:Int) f.au[n].bJ (f.au[n].bJ.length:Int) (k:Int) h.Types h.bC tl w=some (true,z,w++fZ u)/\TS T sb bQ val f z/\Ext T sb f.au.length tl z u/\(n∈u\/∀a∈xs,sb (val (z.getD n 0) a.bw) (z.getD a.To.toNat 0)))\/
  ((∃z w',CC (n:Int) f.au[n].bJ (f.au[n].bJ.length:Int) (k:Int) h.Types h.bC tl w=some (false,z,w'))/\∀N,A5 sb bQ val f N->False):=by
 have hal:=(hf.ao (bB q)).len;intro xs;induction xs with
 |nil=>intro k tl w D S _ _;refine .inl ⟨tl,[],ID ?_,S,Ext.refl H S, .inr λa I=>by cases I⟩;rw[aW D,aA];simp[fZ]
 |cons a xs ih=>
  intro k tl w D S hw hint;have I:=aR (bV D);obtain⟨G,hto,hsc⟩:=arcN H hf hn hF q I;obtain⟨t,ht⟩:=dM hto.1;have Q:t<f.au.length:=af;have R:a.To.toNat=t:=af;have hl:n<tl.length:=by rw[S.len];exact q
  have r:=S.rg n q;obtain⟨v1,_,v2⟩:=H.vl _ a.bw r.1 r.2 G.1 G.2 (hint a I);have P:∀N,A5 sb bQ val f N->sb (val (tl.getD n 0) a.bw) (N t):=λN U=>by have:=((U n q).2 _ hsc).2;rw[R] at this;exact H.hm.to.trans (H.mono _ _ _ G.1 G.2 (hint a I) (S.dG N U n q)) this
  have hlt:=dN D;rcases c472 H hn S (w:=w) af Q v2 P with⟨YJ,u1,g1,S1,V,b1⟩|⟨g1,L⟩
  .have K:∀a∈f.au[n].bJ,sb (bQ a.bw) (YJ.getD n 0):=λa I=>H.hm.to.trans (hint a I) (V.mono n q)
   have hr:=V.room;rcases ih (k+1) YJ (w++fZ u1) (aH D) S1 (by simp[fZ];omega) K with⟨YK,u2,g2,S2,E2,O⟩|⟨⟨YK,w2,g2⟩,L⟩
   .refine .inl ⟨YK,u1++u2,ID ?_,S2,V.trans H E2,?_⟩
    .rw[aP D,ak,aJ D,qE hl,show(aK.mk h.Types h.bC)=h from rfl,v1,aj,cond_neg (by rfl),ht,g1,bG,cond_neg (by rfl),aN D af,g2];simp[fZ]
    .rcases O with O|O
     .exact .inl (gG _ O)
     .rcases V.chg n q with e1|e1
      .rcases E2.chg n q with e2|e2
       .right;intro b hb;rcases aS.1 hb with rfl|hb
        .rw[e2,e1,R];exact H.hm.to.trans b1 (E2.mono t Q)
        .exact O b hb
       .exact .inl (gG _ e2)
      .exact .inl (cO _ e1)
   .refine .inr ⟨⟨YK,w2,ID ?_⟩,L⟩;rw[aP D,ak,aJ D,qE hl,show(aK.mk h.Types h.bC)=h from rfl,v1,aj,cond_neg (by rfl),ht,g1,bG,cond_neg (by rfl),aN D af,g2]
  .refine .inr ⟨⟨tl,w,ID ?_⟩,L⟩;rw[aP D,ak,aJ D,qE hl,show(aK.mk h.Types h.bC)=h from rfl,v1,aj,cond_neg (by rfl),ht,g1,bG,cond_pos (by rfl)]
theorem h461_2 {n:Nat} (z:n<f.au.length):∀(xs:List cz) (k:Nat) (tl w:List Int),f.au[n].bJ.drop k=xs->TS T sb bQ val f tl->w.length+room T tl<=1000000000->(∀a∈f.au[n].bJ.take k,sb (bQ a.bw) (tl.getD n 0))->
  (∃q u,DR (n:Int) f.au[n].bJ (f.au[n].bJ.length:Int) (k:Int) f h.Types h.bC tl w=some (true,q,w++fZ u)/\TS T sb bQ val f q/\Ext T sb f.au.length tl q u/\(n∈u\/HY sb bQ val f (λx=>q.getD x 0) n))\/
  ((∃q w',DR (n:Int) f.au[n].bJ (f.au[n].bJ.length:Int) (k:Int) f h.Types h.bC tl w=some (false,q,w'))/\∀τ,A5 sb bQ val f τ->False):=by
 have hal:=(hf.ao (bB z)).len;intro xs;induction xs with
 |nil=>
  intro k tl w D S hw hint;rw[gK (kJ D)] at hint;have step:∀r,CC (n:Int) f.au[n].bJ (f.au[n].bJ.length:Int) 0 h.Types h.bC tl w=some r->DR (n:Int) f.au[n].bJ (f.au[n].bJ.length:Int) (k:Int) f h.Types h.bC tl w=some r:=λr hr=>by refine O1 ?_;rw[aW D,aA,bU z];exact hr
  rcases h461_8 H hf hn hF z f.au[n].bJ 0 tl w rfl S hw hint with⟨q,u,K,P,N,b⟩|⟨⟨q,w',K⟩,I⟩
  .refine .inl ⟨q,u,step _ K,P,N,b.imp id λb p hp=> ?_⟩;rw[sN z] at hp;obtain⟨a,O,rfl⟩:=aG.1 hp;exact⟨H.hm.to.trans (hint a O) (N.mono n z),b a O⟩
  .exact .inr ⟨⟨q,w',step _ K⟩,I⟩
 |cons a xs ih=>
  intro k tl w D S hw hint;have O:=aR (bV D);obtain⟨G,hto,R⟩:=arcN H hf hn hF z O;obtain⟨V,i2⟩:=H.int a.bw G.1 G.2;have hlt:=dN D;have hfl:=H.fl;rcases c472 H hn S (w:=w) af z i2 (λτ U=>((U n z).2 _ R).1) with⟨YJ,u1,K,P,N,b1⟩|⟨K,I⟩
  .have hr:=N.room
   rcases ih (k+1) YJ (w++fZ u1) (aH D) P (by simp[fZ];omega) (λb L=>by
    rw[cM,bV D] at L;rcases bu.1 L with L|L
    .exact H.hm.to.trans (hint b L) (N.mono n z)
    .simp at L;subst L;exact b1) with⟨YK,u2,Q,S2,E2,b2⟩|⟨⟨YK,w2,Q⟩,I⟩
   .refine .inl ⟨YK,u1++u2,O1 ?_,S2,N.trans H E2,b2.imp (λh=>gG _ h) id⟩;rw[aP D,ak,aJ D,yp G.1 af,V,K,bG,cond_neg (by rfl),aN D af,Q];simp[fZ]
   .refine .inr ⟨⟨YK,w2,O1 ?_⟩,I⟩;rw[aP D,ak,aJ D,yp G.1 af,V,K,bG,cond_neg (by rfl),aN D af,Q]
  .refine .inr ⟨⟨tl,w,O1 ?_⟩,I⟩;rw[aP D,ak,aJ D,yp G.1 af,V,K,bG,cond_pos (by rfl)]
theorem c461 {n:Nat} (z:n<f.au.length) {tl w:List Int} (S:TS T sb bQ val f tl) (L:w.length+room T tl<=1000000000):
  (∃q u,f461 f (n:Int) h.Types h.bC tl w=some (true,q,w++fZ u)/\TS T sb bQ val f q/\Ext T sb f.au.length tl q u/\(n∈u\/HY sb bQ val f (λx=>q.getD x 0) n))\/
  ((∃q D,f461 f (n:Int) h.Types h.bC tl w=some (false,q,D))/\∀N,A5 sb bQ val f N->False):=by
 have step:∀r,DR (n) f.au[n].bJ (f.au[n].bJ.length) 0 f h.Types h.bC tl w=some r->f461 f (n) h.Types h.bC tl w=some r:=λr P=>by simp_all[e461,bU]
 rcases h461_2 H hf hn hF z _ 0 _ w rfl S L (λa I=>by cases I) with⟨q,u,G,O⟩|⟨⟨q,D,G⟩,K⟩
 .grind
 simp_all
def UF (T:Nat) (sb:Int->Int->Prop) (bQ:Int->Int) (val:Int->Int->Int) (f:FSt) (res:Option (FSt×Bool)):Prop:=
 (∃tl,res=some (AX f tl,true)/\TS T sb bQ val f tl/\∀n,n<f.au.length->HY sb bQ val f (λx=>tl.getD x 0) n)\/
 (res=some (⟨[]⟩,false)/\∀q,A5 sb bQ val f q->False)
omit H hf hn hF in
theorem c462 {l:List Node} (hl:l.length<=1000000):f462 l=some l:=by refine ym (E:=EN _) ?_;refine tZ ?_;have q:Nat.ble ((List.map Node.enc l).length *32) 140737488355328=true:=uN (by rw[bz];omega);show(bif Nat.ble ((List.map Node.enc l).length *32) 140737488355328 then _ else _)=_;rw[q];rfl
omit H hf hF in
theorem Xv {Q:aK} {R:FSt} {a b:List fM} {c d:List cW} {q z:List Node} {w tl:List Int} (hl:tl.length=f.au.length):∀(k i:Nat) (s:List Node),f.au.length=i+k->s.length=f.au.length->
  (∀j,(D:j<f.au.length)->s[j]? =some (if j<i then⟨tl.getD j 0,f.au[j].bJ⟩ else f.au[j]))->
  Fu (f.au.length:Int) (i:Int) Q R a c s q b d tl w z=some (AX f tl,true):=by
 intro k;induction k with
 |zero=>
  intro i s O N I;refine S5 ?_;have e:i=f.au.length:=af;subst e;rw[cond_neg (by rw[aQ];omega)]
  have:s=(AX f tl).au:=by
   apply kO;intro j;by_cases D:j<f.au.length
   .rw[I j D,aB D,Fh hl D]
   .rw[gH af,gH (by rw[xw hl];omega)]
  rw[this]
 |succ k P=>
  intro i s O N I;have K:i<f.au.length:=af;refine S5 ?_;have G:=I i K;rw[az (rT _)] at G;rw[cond_pos (by rw[bg];omega),qE af,Ay af,aT,kW G,bM af];refine P (i+1) _ af (by rw[gV];exact N) λj D=> ?_
  rw[wR];by_cases e:i=j
  .subst e;rw[aB rfl,aB af,aB af]
  .rw[az e,I j D];by_cases L:j<i
   .rw[aB L,aB af]
   .rw[az L,az af]
theorem h434_9 {o4:FSt} {b:List fM} {d:List cW}:∀(M i:Nat) (w:List Nat) (tl:List Int),(w.length-i)+room T tl<=M->i<=w.length->w.length+room T tl<=1000000000->TS T sb bQ val f tl->(∀n∈w,n<f.au.length)->
  (∀n,n<f.au.length->n∈w.drop i\/HY sb bQ val f (λx=>tl.getD x 0) n)->
  UF T sb bQ val f (B7 (i:Int) h f o4 h.Types h.bC b d tl (fZ w)):=by
 intro M;induction M with
 |zero=>intro i w tl hM hi hw S q L;have e:i=w.length:=af;subst e;refine .inl ⟨tl,OY ?_,S,λn hn=>(L n hn).elim (λh=>by simp_all) id⟩;rw[cond_neg (by grind[decide_eq_false_iff_not,fZ]),c462 af,aj];exact Xv hn S.len f.au.length 0 f.au af rfl λj hj=>by simp
 |succ M ih=>
  intro i w tl hM hi hw S q L;by_cases G:i<w.length
  .have hd:w.drop i=w[i]::w.drop (i+1):=iH G;have P:=q w[i] (bB G);generalize hwn:w[i]=n at *;have hol:(fZ w).length=w.length:=by simp[fZ]
   have I:(fZ w).getD i 0=(n:Int):=by unfold fZ;simp_all
   rcases c461 H hf hn hF P S (w:=fZ w) af with⟨z,u,K,S1,O,b1⟩|⟨⟨z,w',K⟩,Q⟩
   .have hr:=O.room;have D:fZ w++fZ u=fZ (w++u):=by simp[fZ]
    rw[D] at K
    have:=ih (i+1) (w++u) z (by grind) (by grind) (by grind) S1 (λx N=>(bu.1 N).elim (q x) (O.lt x)) (λx N=>by
     rw[uZ af];by_cases e:x=n
     .grind
     .rcases L x N with V|V
      .simp_all
      .exact(HY.ext H hf O N V).imp (λh=>gG _ h) id)
    have step:∀r,B7 ((i+1:Nat):Int) h f o4 h.Types h.bC b d z (fZ (w++u))=some r->B7 (i:Int) h f o4 h.Types h.bC b d tl (fZ w)=some r:=λr hr=>by refine OY ?_;rw[cond_pos (by simp_all),qE af,I,K,bG,cond_neg (by rfl),bM af];omega
    rcases this with⟨YK,R,U⟩|⟨R,U⟩
    .exact .inl ⟨_,step _ R,U⟩
    .exact .inr ⟨step _ R,U⟩
   .refine .inr ⟨OY ?_,Q⟩;rw[cond_pos (by simp_all),qE af,I,K,bG,cond_pos (by rfl)]
  .have e:i=w.length:=af;refine .inl ⟨tl,OY ?_,S,λn hn=>(L n hn).elim (λh=>by simp_all) id⟩;rw[cond_neg (by grind[fZ]),c462 af,aj];exact Xv hn S.len f.au.length 0 _ af rfl λj hj=>by simp
theorem TS.init:TS T sb bQ val f (f.au.map (·.cR)):=by
 have e:∀n,n<f.au.length->(f.au.map (·.cR)).getD n 0=mI f n:=λn q=>by grind[oa]
 refine⟨ai,λn q=> ?_,λn q=> ?_,λz w n q=> ?_⟩<;>rw[e n q]
 .exact hf.go.tp n q
 .exact H.hm.to.refl (hf.go.tp n q).1 (hf.go.tp n q).2
 .exact(w n q).1
include hT
theorem c434:UF T sb bQ val f (f434 h f):=by
 have S:=TS.init H hf hn hF;have w:=room_le (T:=T) (tl:=f.au.map (·.cR));rw[bz] at w;have L:f.au.length *T<=140000 *1000:=nU hn hT;have G:=h434_9 H hf hn hF (o4:=⟨[]⟩) (b:=[]) (d:=[]) _ 0 (List.range f.au.length) (f.au.map (·.cR)) (aZ _) (cZ _) (by simp only[List.length_range];omega) S (λn hn=>gU.1 hn) (λn hn=> .inl (by simpa using hn));have key:∀r,B7 0 h f ⟨[]⟩ h.Types h.bC [] [] (f.au.map (·.cR)) (fZ (List.range f.au.length))=some r->∀(k i:Nat),f.au.length=i+k->
   Qz f.au (f.au.length:Int) (i:Int) h f ⟨[]⟩ h.Types h.bC [] [] ((f.au.take i).map (·.cR)) (fZ (List.range i))=some r:=by
  intro r w k;induction k with
  |zero=>intro i I;have e:i=f.au.length:=af;subst e;refine acI ?_;rw[cond_neg (by rw[aQ];omega),fT];exact w
  |succ k K=>
   intro i I;have q:i<f.au.length:=af;refine acI ?_;rw[cond_pos (by rw[bg];omega),bU q,cC _ aI ai af,cC _ (by simp[fZ];omega) ai af,bM af];have:=K (i+1) af;rw[cM,aM q,cL,kE] at this;have e:fZ (List.range i++[i])=fZ (List.range i)++[(i:Int)]:=by simp[fZ]
   rw[e] at this;exact this
 have step:∀r,B7 0 h f ⟨[]⟩ h.Types h.bC [] [] (f.au.map (·.cR)) (fZ (List.range f.au.length))=some r->f434 h f=some r:=λr w=>e434 (key r w f.au.length 0 af)
 rcases G with⟨tl,z,D⟩|⟨z,D⟩
 .exact .inl ⟨tl,step _ z,D⟩
 .exact .inr ⟨step _ z,D⟩
end
