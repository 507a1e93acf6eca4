/- READING. -/
import Derived.Test.YthphfjcnkinkpaaGreatDoorAmI
import Derived.Deep.Slices
import Derived.OpenShut
import Derived.Carry
import Derived.ProofKit
import Derived.Test.YthphfjcnkinkpaaGreatDoorClT
set_option linter.all false
namespace Go.AM
open Go.RowKit Go.ChangeShapes Go.WideShapes Go.ChangeAt
mutual
def AV.bulk:AV->Nat
 | .str s=>s.length+1
 | .dG _ xs=>Bo xs+1
 | .agg cs=>ny cs
 | .bool _=>1
 | .int _ _=>1
 | .fn _ _=>1
 | .gX cs=>ny cs
 | .ref _=>1
 | .mp _ _=>1
 | .self _=>1
 | .pG=>1
 | .tU=>1
 | .hole=>1
def ny:List AV->Nat
 |[]=>0
 |a::l=>AV.bulk a+ny l
def Bo:List (List AV)->Nat
 |[]=>0
 |c::l=>ny c+Bo l
end
mutual
def AV.wf:AV->Prop
 | .str s=>s.length<=maxLen
 | .dG _ xs=>wfR xs
 | .agg cs=>WZ cs
 | .bool _=>True
 | .int k n=>(Lit.int k n).wf=true
 | .fn _ _=>True
 | .gX cs=>WZ cs
 | .ref _=>True
 | .mp _ _=>True
 | .self _=>True
 | .pG=>True
 | .tU=>True
 | .hole=>True
def WZ:List AV->Prop
 |[]=>True
 |a::l=>AV.wf a/\WZ l
def wfR:List (List AV)->Prop
 |[]=>True
 |c::l=>WZ c/\wfR l
end
def N5 (a b:List AV):ny (a++b)=ny a+ny b:=by induction a with
 |nil=>simp[ny]
 |cons x a l=>simp[gC,ny];omega
def W0 {a b:List AV}:WZ (a++b)↔WZ a/\WZ b:=by induction a with
 |nil=>simp[WZ]
 |cons x a l=>simp_all[WZ,rQ]
def wfR_all {l:List (List AV)} (h:∀c∈l,WZ c):wfR l:=by induction l with
 |nil=>trivial
 |cons c l z=>exact⟨h c ai,z λx q=>h x (by simp[q])⟩
def Y4 {l:List (List AV)} {c:List AV} (q:c∈l):ny c<=Bo l:=by induction l with
 |nil=>cases q
 |cons x l z=>simp[Bo];grind
structure vG {H:Type} (bk:DataW H->Nat) (UR:List (DataW H)->Nat):Prop where
 str:∀l,bk (.lit (.string l))=l.length+1
 lit:∀l,1<=bk (.lit l)
 nil:1<=bk .nil
 slice:∀e s,bk (.slice e s)=UR e+UR s+1
 agg:∀p,bk (.agg p)=UR p+1
 nilA:UR []=0
 aa6:∀d r,UR (d::r)=bk d+UR r
def muW (w:World):Mu:=λb j=>HF w b j
def pub_muW (w:World):L0 (muW w) w:=λ_ _ _ h=>h
section
variable {H:Type} {enc:TypeId×Value->H} {P:Program} {w:World} {bk:DataW H->Nat} {UR:List (DataW H)->Nat}
def Au (enc:TypeId×Value->H) (P:Program) (w:World) (bk:DataW H->Nat) (n:Nat) (t:TypeId) (Q:List AV->Prop):Prop:=
 ∀q d z,DataW.trod enc P w 0 (λ_=>true) true n t q=some (d,z)->∃l,Q l/\lF (muW w) l q/\ny l<=bk d/\WZ l
def Au.zero {t:TypeId} {Q:List AV->Prop}:Au enc P w bk 0 t Q:=λl d q h=>by simp[DataW.trod] at h
def Au.mono {n:Nat} {t:TypeId} {Q l:List AV->Prop} (h:Au enc P w bk n t Q) (D:∀a,Q a->l a):Au enc P w bk n t l:=λI d K B=>let⟨a,q,z⟩:=h _ d _ B;⟨a,D a q,z⟩
def PJ (q:vG bk UR) {n:Nat} {t:TypeId} {k:IntKind} (z:P.underlying t=some (.int k)):Au enc P w bk n t λl=>∃x,l=dW k x:=by
 intro I d K h;obtain⟨x,rfl,D,B⟩:=DataW.trod_int z h;obtain⟨rfl,rfl⟩:=D;refine⟨_,⟨x,rfl⟩,⟨cT (by simp[rep]) dY,by simp[Value.oneCell']⟩,?_,?_⟩
 .exact q.lit _
 .exact⟨B,trivial⟩
def DN (q:vG bk UR) {n:Nat} {t:TypeId} (z:P.underlying t=some .string):Au enc P w bk n t λl=>∃x,l=pE x:=by
 intro D d K h;obtain⟨s,rfl,B,I⟩:=DataW.trod_string z h;obtain⟨rfl,rfl⟩:=B;refine⟨pE s.data.toList,⟨_,rfl⟩,⟨cT (by simp[rep]) dY,by simp[Value.oneCell']⟩,?_,?_⟩
 .simp only[pE,ny,AV.bulk,q.str];omega
 .refine⟨?_,trivial⟩;assumption
def Mq {B:Mu} {z b:Nat}:∀{xs:List (List AV)} {l:Nat},(∀i x,xs[i]? =some x->∃q,lF B x q/\q.length=z/\∀j u,q[j]? =some u->B b (l+i *z+j)=some u)->lH B z b xs l:=by intro xs;induction xs with
 |nil=>simp[lH]
 |cons x xs K=>intro l h;obtain⟨q,D,I,L⟩:=h 0 x rfl;refine⟨⟨q,D.1,D.2,I,λj u O=>by simp_all⟩,K λi y Q=> ?_⟩;obtain⟨V,R,S,U⟩:=h (i+1) y (by assumption);grind
def aaN (q:vG bk UR):∀(xs:List (List AV)) (l:List (DataW H)),xs.length=l.length->(∀(i:Nat) (x:List AV) (d:DataW H),xs[i]? =some x->l[i]? =some d->ny x<=bk d)->Bo xs<=UR l:=by intro xs;induction xs with
 |nil=>simp[Bo]
 |cons x xs B=>intro l z h;cases l with
  |nil=>simp at z
  |cons d l=>
   rw[q.aa6];have D:=h 0 x d rfl rfl;have:=B l (by simp_all) λi y e K I=>h (i+1) y e (by assumption) (by assumption)
   simp[Bo];omega
def Fe (hB:vG bk UR) {n:Nat} {t e:TypeId} {sz:Nat} (ht:P.underlying t=some (.slice e)) (hc:P.cellsOf e=sz) (hpos:0<sz) {Q:List AV->Prop} (he:Au enc P w bk n e Q):
  Au enc P w bk (n+1) t λavs=>∃xs,avs=[.dG sz xs]/\∀x∈xs,Q x:=by
 intro cs d ps h;rcases DataW.trod_slice ht h with⟨rfl,l⟩|⟨a,len,cap,elems,rest,n',hn,rfl,l,hb,hl,hm,V,hel,_,_⟩
 .simp only[cD] at l;obtain⟨rfl,rfl⟩:=l;refine⟨[.dG sz []],⟨[],rfl,ai⟩,⟨cT ?_ dY,by simp[Value.oneCell']⟩,?_,?_⟩
  .rw[rep];grind
  .simp only[ny,AV.bulk,Bo];exact hB.nil
  .simp[WZ,AV.wf,wfR]
 .obtain rfl:n=n':=by omega
  simp only[cD] at l;obtain⟨rfl,rfl⟩:=l;have R:∀i,i<len->∃L:List AV,Q L/\∃z,w.cells? 0 (a.add (i *sz)) sz=some z/\lF (muW w) L z/\(∀x,elems[i]? =some x->ny L<=bk x.1)/\WZ L:=by
   intro i U;have O:=hel i U;rw[hc] at O;obtain⟨x,l⟩:∃x,elems[i]? =some x:=⟨elems[i]'(by omega),aM af⟩
   rw[l] at O;obtain⟨z,B,D⟩:=dA.1 O;obtain⟨L,k1,k2,k3,k4⟩:=he z x.1 x.2 D;exact⟨L,k1,z,B,k2,λy hy=>by simp_all,k4⟩
  obtain⟨f,hf⟩:=Deep.choose_lt R;have S:∀i x,((List.range len).map f)[i]? =some x->i<len/\x=f i:=by intro i x l;simp only[dK,cH] at l;obtain⟨j,hj,rfl⟩:=l;obtain⟨O,B⟩:=bR.1 hj;simp at O B;subst B;exact⟨O,rfl⟩
  have hmem:∀x∈(List.range len).map f,∃i,i<len/\x=f i:=by intro x l;simp only[aG,gU] at l;obtain⟨i,U,rfl⟩:=l;exact⟨i,U,rfl⟩
  refine⟨[.dG sz ((List.range len).map f)],⟨_,rfl,λx l=> ?_⟩,⟨cT ?_ dY,by simp[Value.oneCell']⟩,?_,?_⟩
  .grind
  .rw[rep];refine⟨some a,cap,by simp,by simpa using hl,hm,?_⟩;cases len with
   |zero=>simp
   |succ len=>
    right;have K:a.spot=none:=by
     obtain⟨_,z,B,_⟩:=hf 0 af;simp only[World.cells?,cZ,ia] at B;have D:=mapM_some_get B 0 0 (by simp[hpos]);have h4:z[0]? ≠none:=by have:=za B;simp at this;intro I;rw[List.getElem?_eq_none_iff] at I;omega
     rw[<-D] at h4;simp[Addr.add] at h4;cases hsp:a.spot with
     |none=>rfl
     |some q=>grind[World.cell?]
    obtain⟨b,off,sp⟩:=a;subst K;refine⟨b,_,rfl,Mq λi x l=> ?_⟩;obtain⟨U,rfl⟩:=S i x l;obtain⟨_,z,B,k2,_⟩:=hf i U;refine⟨_,k2,by simpa using za B,λj u hu=> ?_⟩;have hj:j<sz:=by have:=za B;simp at this;have:=(bR.1 hu).1;omega
    have D:=mapM_some_get B j j (by simp[hj]);rw[hu,Deep.add_add] at D;have e:(⟨b,off,none⟩:Addr).add (i *sz+j)=⟨b,off+i *sz+j,none⟩:=by
     unfold Addr.add;split
     .simp
     .grind
    rw[e] at D;exact xz D (k2.2 u (aR hu))
  .simp[ny,AV.bulk,hB.slice];have:=aaN hB ((List.range len).map f) (elems.map (·.1)) (by simp[V]) λi x d l hd=>by
    grind
   omega
  .refine⟨wfR_all λx l=> ?_,trivial⟩;grind
def Cat:List (List AV->Prop)->List AV->Prop
 |[],l=>l=[]
 |Q::q,l=>∃a b,l=a++b/\Q a/\Cat q b
def Po (P:Program):Nat->List Field->Bool
 |_,[]=>true
 |q,f::l=>Nat.beq f.offset q&&Po P (q+P.cellsOf f.type) l
def Z9 (P:Program):List Field->Nat
 |[]=>0
 |f::l=>P.cellsOf f.type+Z9 P l
def aaq (enc:TypeId×Value->H) (P:Program) (w:World) (bk:DataW H->Nat) (n:Nat):List Field->List (List AV->Prop)->Prop
 |[],[]=>True
 |f::l,Q::q=>Au enc P w bk n f.type Q/\aaq enc P w bk n l q
 |_,_=>False
def Z4 (hB:vG bk UR) {n:Nat} {K:List Value}:∀(z:List Field) (B:List (List AV->Prop)) (xs:List (DataW H×List MemPlace)) (l:Nat),aaq enc P w bk n z B->Po P l z=true->xs.length=z.length->l+Z9 P z<=K.length->
  (∀(i:Nat) (f:Field),z[i]? =some f->DataW.trod enc P w 0 (λ_=>true) true n f.type ((K.drop f.offset).take (P.cellsOf f.type))=xs[i]?)->
  ∃q,Cat B q/\lF (muW w) q ((K.drop l).take (Z9 P z))/\ny q<=UR (xs.map (·.1))/\WZ q:=by
 intro z;induction z with
 |nil=>intro B xs l D _ S _ _;cases B with
  |nil=>exact⟨[],rfl,⟨by rfl,by simp[Z9]⟩,by simp[ny],trivial⟩
  |cons Q B=>exact D.elim
 |cons f z ih=>intro B xs l D O S L U;cases B with
  |nil=>exact D.elim
  |cons Q B=>cases xs with
   |nil=>simp at S
   |cons x xs=>
    simp only[Po,aV] at O;have I:=beq_iff.1 O.1;simp only[Z9] at L⊢;have R:=U 0 f rfl;rw[I] at R;obtain⟨V,q0,r0,b0,w0⟩:=D.1 _ _ _ R;obtain⟨a1,q1,r1,b1,w1⟩:=ih _ _ _ D.2 O.2 (by simp_all) af λi g hg=>U (i+1) g (by assumption)
    refine⟨_,⟨V,a1,rfl,q0,q1⟩,?_,?_,W0.2 ⟨w0,w1⟩⟩
    .rw[List.take_add,List.drop_drop];exact r0.append r1
    .rw[N5,bS,hB.aa6];omega
def rD (B:vG bk UR) {n:Nat} {t:TypeId} {z:Array Field} {Qs:List (List AV->Prop)} (L:P.underlying t=some (.struct z)) (K:Po P 0 z.toList=true) (hs:Z9 P z.toList=P.cellsOf t)
  (I:aaq enc P w bk n z.toList Qs):Au enc P w bk (n+1) t (Cat Qs):=by
 intro S d ps h;obtain⟨xs,R,hn,O,V,Q,l⟩:=DataW.trod_struct L h;obtain rfl:n=R:=by omega
 obtain⟨rfl,rfl⟩:=O;obtain⟨D,q,r,b,wf⟩:=Z4 B _ _ _ 0 I K af af λi f U=>l i f (by simp_all)
 refine⟨_,q,?_,by rw[B.agg];omega,wf⟩;grind
def arg_agg {t:TypeId} {I:Array Field} {v:Value} {d:DataW H} {S:List MemPlace} {Q:List AV->Prop} {LX:Reach} {z:Nat} (R:P.underlying t=some (.struct I)) (B:Value.okWide P w LX z t v)
  (L:DataW.Trod enc P w 0 (λ_=>true) true t v d S) (K:∀n,Au enc P w bk n t Q):∃l,Q l/\rep (muW w) (.agg l) v/\ny l<=bk d/\WZ l:=by
 obtain⟨D,rfl,_⟩:=WideShapes.okWide_struct R B;obtain⟨n,O⟩:=L;obtain⟨l,q,r,b,wf⟩:=K n _ _ _ O;refine⟨l,q,?_,b,wf⟩;rw[rep];exact⟨D.toList,by simp,by simpa[Value.cells] using r.1,by simpa[Value.cells] using r.2⟩
end
def ZI {P:Program} {H:Nat->Hint} {gR:eN} {q:Qp} {B:Mu} (L:DK P=true) (D:∀f fn c,P.funcs[f]? =some fn->fn.body=some c->q7 q B P (H f) fn.ntmps c) (z:iz q B P gR) {f:Nat} {avs:List AV} {us:List Value} {W:World} (V:B.le (muW W)) (I:cS (muW W) avs us)
  (K:run P H gR f (avs.map .pv) []=some (.bool true,[])):Calls P f us.toArray W λe O=>e= .returned (.bool true)/\Below W.heap.size W O:=by
 have hs:∀{avs:List _} {us:List _},cS (muW W) avs us->gY (muW W) (λ_=> .bool false) (avs.map .pv) us:=by intro avs;induction avs with
  |nil=>intro us h;assumption
  |cons a l ih=>intro us h;obtain⟨u,us',rfl,S,U⟩:=h;exact⟨u,_,rfl,S,ih U⟩
 have:=(iz.noY (Ny L D z f _ _ _ _ K W _ _ _ V (pub_muW W) (λid o h=>by cases h) (λi j oi oj h=>by cases h) (hs I)) λxs=>by simp[find]).2;refine this.mono ?_;rintro e O ⟨v,μ',R,rfl,Q⟩;have hv:=Q.pure rfl;subst hv;exact⟨rfl,Eh Q⟩
def Dg {L:Type} {enc:TypeId×Value->L} {P:Program} (R:laidOutB P=true) {W O:World} (Q:Below W.heap.size W O):∀{B:List TypeId} {K:List Value} {D:List (DataW L)} {z:List MemPlace},(∀t∈B,P.readableRec t=true/\t<P.types.size)->
  (∀x∈z,x.block<W.heap.size)->DataW.TrodAll enc P W 0 (λ_=>true) true B K D z->DataW.TrodAll enc P O 0 (λb=>decide (b<W.heap.size)) true B K D z
 |[],[],[],_,_,_,h=>h
 |[],[],_::_,_,_,_,h=>h.elim
 |[],_::_,_,_,_,_,h=>by cases h
 |_::_,[],_,_,_,_,h=>by cases h
 |_::_,_::_,[],_,_,_,h=>h.elim
 |t::B,v::K,d::D,z,hr,l,h=>by obtain⟨p,q,S,U,rfl⟩:=h;exact⟨p,q,Below.trod R (hr t ai).1 (hr t ai).2 S Q (λx I=>l x (by simp[I])),Dg R Q (λt V=>hr t (by simp[V])) (λx I=>l x (by simp[I])) U,rfl⟩
def Ca {B:Type} {enc:TypeId×Value->B} {P:Program} {W:World}:∀{z:List TypeId} {I:List Value} {l:List (DataW B)} {D:List MemPlace},DataW.TrodAll enc P W 0 (λ_=>true) true z I l D->l.length=z.length
 |[],[],[],_,_=>rfl
 |[],[],_::_,_,h=>h.elim
 |[],_::_,_,_,h=>by cases h
 |_::_,[],_,_,h=>by cases h
 |_::_,_::_,[],_,h=>h.elim
 |t::z,v::I,d::l,D,h=>by obtain⟨p,q,L,K,rfl⟩:=h;simp[Ca K]
def ZY {L:Type} {enc:TypeId×Value->L} {P:Program} {fn:Func} {s:ChangeSpec} {tb:TypeId} {W W':World} {args:Array Value} {I O:List (DataW L)} {before:List MemPlace} {l D z:Bool}
  (hl:laidOutB P=true) (hpar:fn.params.toList.all (λt=>P.readableRec t&&decide (t<P.types.size))=true) (B:s.vars=[]) (K:fn.resultTypes= #[tb]) (htb:P.underlying tb=some .bool)
  (U:∀I:List (DataW L),I.length=fn.params.size->s.fn L I={ results:=[.lit (.bool true)],args:=I })
  (R:DataW.Whole enc P fn.params.toList s.vars l W args.toList I O before) (hb:Below W.heap.size W W'):
  s.post enc P fn l D z false W args (.bool true) W':=by
 have V:=R.lt;have S:=R;obtain⟨p,q,hA,Q,rfl,_,_⟩:=R;rw[B] at Q;obtain⟨rfl,rfl⟩:O=[]/\q=[]:=by cases O with
  |nil=>exact⟨rfl,Q⟩
  |cons g O=>exact Q.elim
 have hlen:=Ca hA;have e:=U _ af;refine⟨I,[],_,[],p,[],S,?_,?_,?_,hb.frame _,λh=>by cases h⟩
 .rw[dF,e,K];exact trodAll_cons_mk (shut_bool htb _) trodAll_mk0
 .rw[dF,e];refine Dg hl hb (λt ht=> ?_) (λx hx=>V x (by simp[hx])) hA;grind
 .rw[dF,e,B];rfl
end Go.AM
namespace Go.Proofs.YthphfjcnkinkpaaGreatDoor.cl.pf
open Go Go.AM
def pS {q z:Type} (R:q->z->Prop):List q->List z->Prop
 |[],[]=>True
 |a::l,b::m=>R a b/\pS R l m
 |_,_=>False
def pS.append {B D:Type} {R:B->D->Prop}:∀{l q:List B} {m z:List D},pS R l m->pS R q z->pS R (l++q) (m++z)
 |[],_,[],_,_,h=>h
 |a::l,_,b::m,_,h,k=>⟨h.1,pS.append h.2 k⟩
 |[],_,_::_,_,h,_=>h.elim
 |_::_,_,[],_,h,_=>h.elim
def pS.map_eq {z B D:Type} {R:z->B->Prop} {f:z->D} {g:B->D} (q:∀a b,R a b->f a=g b):∀{l:List z} {m:List B},pS R l m->l.map f=m.map g
 |[],[],_=>rfl
 |a::l,b::m,h=>by simp only[bS,q a b h.1,pS.map_eq q h.2]
 |[],_::_,h=>h.elim
 |_::_,[],h=>h.elim
def pS.mem_iff {R:Nat->Nat->Prop} (D:∀{a b z B},R a b->R z B->(a=z↔b=B)) {a b:Nat} (q:R a b):∀{l m:List Nat},pS R l m->(a∈l↔b∈m)
 |[],[],_=>by simp
 |x::l,y::m,h=>by rw[aS,aS,pS.mem_iff D q h.2,D q h.1]
 |[],_::_,h=>h.elim
 |_::_,[],h=>h.elim
def pS.idx {R:Nat->Nat->Prop} (D:∀{a b z B},R a b->R z B->(a=z↔b=B)) {a b:Nat} (q:R a b):∀{l m:List Nat},pS R l m->l.idxOf a=m.idxOf b
 |[],[],_=>rfl
 |x::l,y::m,h=>by
  rw[uR,uR,pS.idx D q h.2];have:=D h.1 q;by_cases e:x=a
  .simp[e,this.1 e]
  .have I:y≠b:=λh=>e (this.2 h)
   simp[lP.2 e,lP.2 I]
 |[],_::_,h=>h.elim
 |_::_,[],h=>h.elim
def s5:∀{N:Nat} {o:List Nat},o.Nodup->(∀x∈o,x<N)->o.length<=N
 |0,o,_,h=>by cases o with
  |nil=>simp
  |cons x o=>have:=h x (by simp);omega
 |N+1,o,l,h=>by
  have B:(o.filter (· !=N)).Nodup:=l.filter _;have L:=s5 (N:=N) B λx q=>by rw[c7] at q;have:=h x q.1;have:=lQ.1 q.2;omega
  have D:∀{o:List Nat},o.Nodup->o.length<=(o.filter (· !=N)).length+1:=by intro o;induction o with
   |nil=>simp
   |cons x o K=>
    intro l;rw[gy] at l;by_cases e:x=N
    .subst e
     have:o.filter (· !=x)=o:=y4.2 λy I=>lQ.2 λe=>l.1 (e▸I)
     simp[this]
    .have z:(x !=N)=true:=lQ.2 e;have:=K l.2;simp only[nM,z,ia,bD];omega
  have:=D l;omega
structure Gr where
 sc:Nat->List (Int×Nat)
 ty:Nat->Int
def nh (sc:Nat->List (Int×Nat)):Nat->Nat->List Nat->List Nat
 |0,_,o=>o
 |k+1,n,o=>if n∈o then o else(sc n).foldl (λo p=>nh sc k p.2 o) (o++[n])
abbrev rJ (sc:Nat->List (Int×Nat)) (k:Nat) (l:List (Int×Nat)) (o:List Nat):List Nat:=l.foldl (λo p=>nh sc k p.2 o) o
def Bd (sc:Nat->List (Int×Nat)) (N:Nat):Prop:=∀n,n<N->∀p∈sc n,p.2<N
structure Met (N:Nat) (o:List Nat):Prop where
 nd:o.Nodup
 lt:∀x∈o,x<N
def Met.nil {N:Nat}:Met N []:=⟨y3,λ_ h=>by cases h⟩
def Met.snoc {N n:Nat} {o:List Nat} (h:Met N o) (D:n<N) (q:n∉o):Met N (o++[n]):=
 ⟨by
  rw[ig];exact⟨h.nd,by simp,λa B b z=>by simp at z;subst z;exact λe=>q (e▸B)⟩,λx l=>by
  rcases bu.1 l with l|l
  .exact h.lt x l
  .simp at l;subst l;exact D⟩
section
variable {sc:Nat->List (Int×Nat)} {N:Nat}
def FO:∀(k n:Nat) (o:List Nat),o<+:nh sc k n o
 |0,_,o=>rR _
 |k+1,n,o=>by
  simp only[nh];split
  .exact rR _
  .refine zb (List.prefix_append o [n]) ?_;generalize o++[n]=q;generalize sc n=l;induction l generalizing q with
   |nil=>exact rR _
   |cons p l z=>exact zb (FO k p.2 q) (z _)
def Cg (k:Nat):∀(l:List (Int×Nat)) (o:List Nat),o<+:rJ sc k l o
 |[],o=>rR _
 |p::l,o=>zb (FO k p.2 o) (Cg k l _)
theorem Ap (B:Bd sc N):∀(k n:Nat) (o:List Nat),Met N o->n<N->Met N (nh sc k n o)
 |0,_,o,h,_=>h
 |k+1,n,o,h,I=>by
  simp only[nh];split
  .exact h
  .rename_i z;have key:∀(l:List (Int×Nat)) (o:List Nat),(∀p∈l,p.2<N)->Met N o->Met N (rJ sc k l o):=by
    intro l;induction l with
    |nil=>intro o _ h;exact h
    |cons p l L=>intro o D h;exact L _ (λq K=>D q (by simp[K])) (Ap B k p.2 o h (D p ai))
   exact key _ _ (B n I) (h.snoc I z)
def Ja (k n:Nat) (o:List Nat):o.length<=(nh sc k n o).length:=(FO k n o).length_le
def Us (z:Bd sc N):∀(k n:Nat) (o:List Nat),Met N o->n<N->N<k+o.length->nh sc (k+1) n o=nh sc k n o
 |0,n,o,h,D,B=>by have:=s5 h.nd h.lt;omega
 |k+1,n,o,h,D,B=>by
  rw[nh,nh];split
  .rfl
  .rename_i I;have key:∀(l:List (Int×Nat)) (o:List Nat),(∀p∈l,p.2<N)->Met N o->N<k+o.length->rJ sc (k+1) l o=rJ sc k l o:=by
    intro l;induction l with
    |nil=>intro o _ _ _;rfl
    |cons p l Q=>intro o K h B;have L:=K p ai;simp only[rJ,gx];rw[Us z k p.2 o h L B];exact Q _ (λq O=>K q (by simp[O])) (Ap z k p.2 o h L) (by have:=Ja (sc:=sc) k p.2 o;omega)
   exact key _ _ (z n D) (h.snoc D I) (by simp only[cE,dV];omega)
def LQ (l:Bd sc N) {k n:Nat} {o:List Nat} (h:Met N o) (q:n<N) (z:N<k+o.length):∀j,nh sc (k+j) n o=nh sc k n o
 |0=>rfl
 |j+1=>by rw[<-nj,Us l (k+j) n o h q af,LQ l h q z j]
def YN (q:Bd sc N) {k j n:Nat} {o:List Nat} (h:Met N o) (z:n<N) (D:N<k+o.length) (B:N<j+o.length):nh sc k n o=nh sc j n o:=by
 rcases Nat.le_total k j with l|l
 .obtain⟨d,rfl⟩:=Nat.le.dest l;exact(LQ q h z D d).symm
 .obtain⟨d,rfl⟩:=Nat.le.dest l;exact LQ q h z B d
def Ao (S:Bd sc N):∀(k n:Nat) (o:List Nat),Met N o->n<N->N<k+o.length->n∈nh sc k n o/\∀x∈nh sc k n o,x∉o->∀p∈sc x,p.2∈nh sc k n o
 |0,n,o,h,V,U=>by have:=s5 h.nd h.lt;omega
 |k+1,n,o,h,V,U=>by
  rw[nh];split
  .rename_i I;exact⟨I,λx K z=>absurd K z⟩
  .rename_i I;have key:∀(l:List (Int×Nat)) (o:List Nat),(∀p∈l,p.2<N)->Met N o->N<k+o.length->(∀p∈l,p.2∈rJ sc k l o)/\∀x∈rJ sc k l o,x∉o->∀p∈sc x,p.2∈rJ sc k l o:=by
    intro l;induction l with
    |nil=>intro o _ _ _;exact⟨λp O=>by(cases O),λx K z=>absurd K z⟩
    |cons p l ih=>
     intro o hl h U;have O:=hl p ai;obtain⟨c1,c2⟩:=Ao S k p.2 o h O U;have hm:=Ap S k p.2 o h O;have hlen:=Ja (sc:=sc) k p.2 o;obtain⟨Q,R⟩:=ih (nh sc k p.2 o) (λq D=>hl q (by simp[D])) hm af;have B:=Cg (sc:=sc) k l (nh sc k p.2 o);refine⟨λq D=> ?_,λx K z q D=> ?_⟩
     .rcases aS.1 D with rfl|D
      .exact B.subset c1
      .exact Q q D
     .by_cases L:x∈nh sc k p.2 o
      .exact B.subset (c2 x L z q D)
      .exact R x K L q D
   obtain⟨Q,R⟩:=key (sc n) (o++[n]) (S n V) (h.snoc V I) (by simp only[cE,dV];omega);have B:=Cg (sc:=sc) k (sc n) (o++[n]);refine⟨B.subset ai,λx K z q D=> ?_⟩;by_cases e:x=n
   .subst e;exact Q q D
   .exact R x K (by simp[z,e]) q D
inductive qG (sc:Nat->List (Int×Nat)) (r:Nat):Nat->Prop where
 |root:qG sc r r
 |step {n:Nat} {p:Int×Nat}:qG sc r n->p∈sc n->qG sc r p.2
def YP {r:Nat}:∀(k n:Nat) (o:List Nat),qG sc r n->∀x∈nh sc k n o,x∉o->qG sc r x
 |0,n,o,_,x,B,z=>absurd B z
 |k+1,n,o,K,x,B,z=>by
  rw[nh] at B;split at B
  .exact absurd B z
  .have key:∀(l:List (Int×Nat)) (o:List Nat),(∀p∈l,qG sc r p.2)->∀x∈rJ sc k l o,x∉o->qG sc r x:=by
    intro l;induction l with
    |nil=>intro o _ x B z;exact absurd B z
    |cons p l Q=>
     intro o I x B z;by_cases D:x∈nh sc k p.2 o
     .exact YP k p.2 o (I p ai) x D z
     .exact Q _ (λq O=>I q (by simp[O])) x B D
   by_cases e:x=n
   .subst e;exact K
   .exact key _ _ (λp L=>K.step L) x B (by simp[z,e])
end
def jo (G:Gr) (N r:Nat):List Nat:=nh G.sc (N+1) r []
def kI (G:Gr) (N r:Nat):FSt:=⟨(jo G N r).map λn=>⟨G.ty n,(G.sc n).map λp=>⟨p.1,((jo G N r).idxOf p.2:Nat)⟩⟩⟩
section
variable {G:Gr} {N r:Nat}
def sw (l:Bd G.sc N) (hr:r<N):Met N (jo G N r):=Ap l _ _ _ Met.nil hr
def adT (l:Bd G.sc N) (hr:r<N):r∈jo G N r:=(Ao l (N+1) r [] Met.nil hr ai).1
def yD (l:Bd G.sc N) (hr:r<N) {x:Nat} (z:x∈jo G N r) {p:Int×Nat} (q:p∈G.sc x):p.2∈jo G N r:=(Ao l (N+1) r [] Met.nil hr ai).2 x z ai p q
theorem IL (l:Bd G.sc N) (hr:r<N) {x:Nat}:x∈jo G N r↔qG G.sc r x:=
 ⟨λh=>YP _ _ _ .root x h ai,λh=>by induction h with
  |root=>exact adT l hr
  |step _ q z=>exact yD l hr z q⟩
theorem yC (q:Bd G.sc N) (hr:r<N):(jo G N r)[0]? =some r:=by unfold jo;rw[nh];simp only[nG,gL,dQ];obtain⟨t,l⟩:=Cg (sc:=G.sc) N (G.sc r) [r];show(rJ G.sc N (G.sc r) [r])[0]? =some r;rw[<-l];rfl
end
def YO {L O:Nat->List (Int×Nat)} {R:Nat->Nat->Prop} (U:∀{a b Q S},R a b->R Q S->(a=Q↔b=S))
  (hs:∀a b,R a b->pS (λp q=>p.1=q.1/\R p.2 q.2) (L a) (O b)):∀(k a b:Nat) (z B:List Nat),R a b->pS R z B->pS R (nh L k a z) (nh O k b B)
 |0,a,b,z,B,_,D=>D
 |k+1,a,b,z,B,I,D=>by
  rw[nh,nh];have V:=pS.mem_iff U I D;by_cases h:a∈z
  .rw[aB h,aB (V.1 h)];exact D
  .rw[az h,az (λh'=>h (V.2 h'))];have key:∀(l m:List (Int×Nat)) (z B:List Nat),pS (λp q=>p.1=q.1/\R p.2 q.2) l m->pS R z B->pS R (rJ L k l z) (rJ O k m B):=by
    intro l;induction l with
    |nil=>intro m z B K D;cases m with
     |nil=>exact D
     |cons q m=>exact K.elim
    |cons p l ih=>intro m z B K D;cases m with
     |nil=>exact K.elim
     |cons q m=>exact ih m _ _ K.2 (YO U hs k p.2 q.2 z B K.1.2 D)
   exact key _ _ _ _ (hs a b I) (D.append ⟨I,trivial⟩)
def Xd {l z:Gr} {B D I K:Nat} (Q:Bd l.sc B) (S:Bd z.sc D) (h1:I<B) (h2:K<D) {R:Nat->Nat->Prop} (hR:∀{a b U V},R a b->R U V->(a=U↔b=V))
  (hs:∀a b,R a b->pS (λp q=>p.1=q.1/\R p.2 q.2) (l.sc a) (z.sc b)) (ht:∀a b,R a b->l.ty a=z.ty b) (hr:R I K):kI l B I=kI z D K:=by
 have e1:jo l B I=nh l.sc (B+D+1) I []:=YN Q Met.nil h1 ai aI;have e2:jo z D K=nh z.sc (B+D+1) K []:=YN S Met.nil h2 ai aI;have ho:pS R (jo l B I) (jo z D K):=by rw[e1,e2];exact YO hR hs _ _ _ _ _ hr trivial
 unfold kI;congr 1;refine pS.map_eq (λa b L=> ?_) ho;rw[ht a b L];congr 1;exact pS.map_eq (λp q O=>by rw[O.1,pS.idx hR O.2 ho]) (hs a b L)
end Go.Proofs.YthphfjcnkinkpaaGreatDoor.cl.pf
namespace Go.Proofs.YthphfjcnkinkpaaGreatDoor.cl.pf
open Go Go.AM
def PX (x:Node):List (Int×Nat):=x.bJ.map λa=>(a.bw,a.To.toNat)
def iD (f:FSt) (n:Nat):List (Int×Nat):=match f.au[n]? with
 |some x=>PX x
 |none=>[]
def mI (f:FSt) (n:Nat):Int:=match f.au[n]? with
 |some x=>x.cR
 |none=>0
def jI (f:FSt):Gr:=⟨iD f,mI f⟩
def yb (l:List (Int×Nat)):Prop:=l.Pairwise λp q=>p.1<q.1
def yb.LW {l:List (Int×Nat)} (h:yb l) {f:Int} {a b:Nat} (q:(f,a)∈l) (z:(f,b)∈l):a=b:=by induction l with
 |nil=>cases q
 |cons p l B=>
  have h:=dU.1 h;rcases aS.1 q with q|q<;>rcases aS.1 z with z|z
  .exact(zc (q.trans z.symm)).2
  .have:=h.1 _ z;subst q;simp at this
  .have:=h.1 _ q;subst z;simp at this
  .exact B h.2 q z
theorem yb.ext:∀{l m:List (Int×Nat)},yb l->yb m->(∀p,p∈l↔p∈m)->l=m
 |[],[],_,_,_=>rfl
 |[],q::m,_,_,h=>absurd ((h q).2 ai) ai
 |p::l,[],_,_,h=>absurd ((h p).1 ai) ai
 |p::l,q::m,L,O,h=>by
  have z:=dU.1 L;have B:=dU.1 O;have e:p=q:=by
   rcases aS.1 ((h p).1 ai) with e|D
   .exact e
   .rcases aS.1 ((h q).2 ai) with e|K
    .exact e.symm
    .have:=B.1 _ D;have:=z.1 _ K;omega
  subst e;rw[yb.ext z.2 B.2 λx=> ?_];constructor
  .intro I;rcases aS.1 ((h x).1 (by simp[I])) with e|D
   .have:=z.1 _ I;subst e;omega
   .exact D
  .intro I;rcases aS.1 ((h x).2 (by simp[I])) with e|D
   .have:=B.1 _ I;subst e;omega
   .exact D
def yb.map {l:List (Int×Nat)} (h:yb l) (g:Nat->Nat):yb (l.map λp=>(p.1,g p.2)):=by unfold yb;rw[jd];exact h
def yb.nil:yb []:=List.Pairwise.nil
structure GO (T F:Nat) (G:Gr) (N:Nat):Prop where
 bd:Bd G.sc N
 wT:∀n,n<N->yb (G.sc n)
 ft:∀n,n<N->∀p∈G.sc n,0<=p.1/\p.1<(F:Int)
 tp:∀n,n<N->0<=G.ty n/\G.ty n<(T:Int)
def qG.lt {sc:Nat->List (Int×Nat)} {N r i:Nat} (l:Bd sc N) (hr:r<N) (h:qG sc r i):i<N:=by induction h with
 |root=>exact hr
 |step _ q z=>exact l _ z _ q
theorem PW {f:FSt} {n:Nat} (h:f.au.length<=n):iD f n=[]:=by unfold iD;rw[gH h]
def sN {f:FSt} {n:Nat} (h:n<f.au.length):iD f n=PX f.au[n]:=by unfold iD;rw[aM h]
theorem oa {f:FSt} {n:Nat} (h:n<f.au.length):mI f n=f.au[n].cR:=by unfold mI;rw[aM h]
def vW:∀{o:List Nat},o.Nodup->∀{i x:Nat},o[i]? =some x->o.idxOf x=i
 |[],_,i,x,h=>by simp at h
 |y::o,l,0,x,h=>by simp at h;subst h;simp
 |y::o,l,i+1,x,h=>by
  rw[gy] at l;rw[rS] at h;have q:x∈o:=aR h
  have:(y==x)=false:=lP.2 λe=>l.1 (e▸q)
  rw[uR,this,vW l.2 h];rfl
def vJ:∀{o:List Nat} {x:Nat},x∈o->o[o.idxOf x]? =some x
 |y::o,x,h=>by
  rw[uR];by_cases e:y=x
  .subst e;simp
  .rw[lP.2 e];show(y::o)[o.idxOf x+1]? =some x;rw[rS];rcases aS.1 h with h|h
   .exact absurd h.symm e
   .exact vJ h
section
variable {G:Gr} {N r:Nat}
def Xb {i x:Nat} (h:(jo G N r)[i]? =some x):(kI G N r).au[i]? =some ⟨G.ty x,(G.sc x).map λp=>⟨p.1,((jo G N r).idxOf p.2:Nat)⟩⟩:=by show(List.map _ _)[i]? =_;rw[dK,h];rfl
def Bt {i x:Nat} (h:(jo G N r)[i]? =some x):iD (kI G N r) i=(G.sc x).map λp=>(p.1,(jo G N r).idxOf p.2):=by unfold iD;rw[Xb h];simp only[PX,e8];rfl
def Og {i x:Nat} (h:(jo G N r)[i]? =some x):mI (kI G N r) i=G.ty x:=by unfold mI;rw[Xb h]
def FZ:(kI G N r).au.length=(jo G N r).length:=by show(List.map _ _).length=_;simp
def Of {i:Nat} (h:i<(kI G N r).au.length):∃x,(jo G N r)[i]? =some x:=by rw[FZ] at h;exact⟨_,aM h⟩
def idx_lt {o:List Nat} {x:Nat} (h:x∈o):o.idxOf x<o.length:=List.idxOf_lt_length_of_mem h
def pS.Gc {z B:Type} {R:z->B->Prop} {g:z->B}:∀{l:List z},(∀p∈l,R p (g p))->pS R l (l.map g)
 |[],_=>trivial
 |p::l,h=>⟨h p ai,pS.Gc λq D=>h q (by simp[D])⟩
variable {T F:Nat} (hG:GO T F G N) (hr:r<N)
include hG hr
theorem U5:Bd (iD (kI G N r)) ((kI G N r).au.length):=by intro i B p l;obtain⟨x,z⟩:=Of B;rw[Bt z] at l;obtain⟨q,D,rfl⟩:=aG.1 l;rw[FZ];exact idx_lt (yD hG.bd hr (aR z) D)
theorem can_go:GO T F (jI (kI G N r)) ((kI G N r).au.length):=by
 have l:∀{i x:Nat},(jo G N r)[i]? =some x->x<N:=λh=>(sw hG.bd hr).lt _ (aR h)
 refine⟨U5 hG hr,λi D=> ?_,λi D p B=> ?_,λi D=> ?_⟩<;>obtain⟨x,z⟩:=Of D
 .show yb (iD _ i);rw[Bt z];exact(hG.wT x (l z)).map λy=>(jo G N r).idxOf y
 .have B:p∈iD (kI G N r) i:=B;rw[Bt z] at B;obtain⟨q,I,rfl⟩:=aG.1 B;exact hG.ft x (l z) q I
 .show 0<=mI _ i/\mI _ i<_;rw[Og z];exact hG.tp x (l z)
theorem U7:0<(kI G N r).au.length:=by have:=aR (yC hG.bd hr);rw[FZ];exact ze this
theorem can_can:kI (jI (kI G N r)) ((kI G N r).au.length) 0=kI G N r:=by
 have nd:=(sw hG.bd hr).nd;refine(Xd (R:=λa b=>(jo G N r)[b]? =some a) hG.bd (U5 hG hr) hr (U7 hG hr) (λ{a b z B} h l=> ?_) (λa b h=> ?_) (λa b h=> ?_) (yC hG.bd hr)).symm
 .constructor
  .intro e;subst e;rw[<-vW nd h,<-vW nd l]
  .intro e;subst e;rw[h] at l;exact fR l
 .show pS _ _ (iD _ b);rw[Bt h];refine pS.Gc λp q=>⟨rfl,?_⟩
  exact vJ (yD hG.bd hr (aR h) q)
 .exact(Og h).symm
end
structure Can (T F:Nat) (f:FSt):Prop where
 ne:0<f.au.length
 go:GO T F (jI f) (f.au.length)
 eq:f=kI (jI f) (f.au.length) 0
def U6 {T F:Nat} {G:Gr} {N r:Nat} (hG:GO T F G N) (hr:r<N):Can T F (kI G N r):=
 ⟨U7 hG hr,can_go hG hr,(can_can hG hr).symm⟩
def adD {N:Nat} {o:List Nat} (D:o.Nodup) (B:∀x∈o,x<N) (I:N<=o.length) {i:Nat} (z:i<N):i∈o:=by
 apply fh;intro h;have q:(i::o).Nodup:=gy.2 ⟨h,D⟩;have:=s5 q (N:=N) λx l=>by
  rcases aS.1 l with rfl|l
  .exact z
  .exact B x l
 simp at this;omega
def asc_mem {T F:Nat} {f:FSt} (h:GO T F (jI f) (f.au.length)) (i:Nat):yb (iD f i):=by
 by_cases l:i<f.au.length
 .exact h.wT i l
 .rw[PW af];exact yb.nil
namespace Can
variable {T F:Nat} {f:FSt} (h:Can T F f)
include h
theorem bd:Bd (iD f) (f.au.length):=h.go.bd
theorem wT (i:Nat):yb (iD f i):=asc_mem h.go i
theorem met:Met (f.au.length) (jo (jI f) (f.au.length) 0):=sw h.go.bd h.ne
theorem olen:(jo (jI f) (f.au.length) 0).length=f.au.length:=by
 have:f.au.length=(kI (jI f) f.au.length 0).au.length:=aU (λg:FSt=>g.au.length) h.eq
 rw[FZ] at this;exact this.symm
theorem omem {i:Nat} (l:i<f.au.length):i∈jo (jI f) (f.au.length) 0:=adD h.met.nd h.met.lt (by rw[h.olen];exact aZ _) l
theorem LX {i:Nat} (l:i<f.au.length):qG (iD f) 0 i:=(IL h.go.bd h.ne).1 (h.omem l)
theorem Ms {i:Nat} (l:qG (iD f) 0 i):i<f.au.length:=l.lt h.bd h.ne
theorem oat {i:Nat} (D:qG (iD f) 0 i):(jo (jI f) (f.au.length) 0)[i]? =some i:=by induction D with
 |root=>exact yC h.go.bd h.ne
 | @step n p K q L=>
  have l:=q;have e:iD f n=iD (kI (jI f) (f.au.length) 0) n:=aU (λg=>iD g n) h.eq;rw[Bt L] at e;have z:(p.1,(jo (jI f) (f.au.length) 0).idxOf p.2)∈iD f n:=by rw[e];exact aG.2 ⟨p,q,rfl⟩
  have B:=(h.wT n).LW (a:=p.2) l z;have I:p.2∈jo (jI f) (f.au.length) 0:=h.omem (h.bd n (h.Ms K) p l);have:=vJ I;rw[<-B] at this;exact this
theorem ord:jo (jI f) (f.au.length) 0=List.range (f.au.length):=by
 apply kO;intro i;by_cases l:i<f.au.length
 .rw[h.oat (h.LX l),p9 l]
 .rw[gH (by rw[h.olen];omega),gH (by simpa using l)]
theorem nn {x:Node} (l:x∈f.au) {a:cz} (q:a∈x.bJ):0<=a.To:=by rw[h.eq] at l;obtain⟨n,_,rfl⟩:=aG.1 l;obtain⟨p,_,rfl⟩:=aG.1 q;exact Int.natCast_nonneg _
end Can
def Pre (sc:Nat->List (Int×Nat)) (o:List Nat):Prop:=∀i x,o[i]? =some x->0<i->∃j,j<i/\∃y,o[j]? =some y/\∃p∈sc y,p.2=x
def Pre.snoc {sc:Nat->List (Int×Nat)} {o:List Nat} {n:Nat} (h:Pre sc o) (K:o=[]\/∃y∈o,∃p∈sc y,p.2=n):Pre sc (o++[n]):=by
 intro i x l D;by_cases I:i<o.length
 .rw[fV I] at l;obtain⟨j,q,y,B,z⟩:=h i x l D;exact⟨j,q,y,by rw[fV af];exact B,z⟩
 .rw[gD af] at l
  have:i-o.length=0:=by cases e:i-o.length with
   |zero=>rfl
   |succ k=>rw[e] at l;simp at l
  rw[this] at l;simp at l;subst l;rcases K with rfl|⟨y,B,z⟩
  .simp at this;omega
  .obtain⟨j,q⟩:=iG.1 B;have:=(bR.1 q).1;exact⟨j,by omega,y,by rw[fV this];exact q,z⟩
def Ut {sc:Nat->List (Int×Nat)}:∀(k n:Nat) (o:List Nat),Pre sc o->(o=[]\/∃y∈o,∃p∈sc y,p.2=n)->Pre sc (nh sc k n o)
 |0,_,o,h,_=>h
 |k+1,n,o,h,D=>by
  rw[nh];split
  .exact h
  .have key:∀(l:List (Int×Nat)) (o:List Nat),Pre sc o->n∈o->(∀p∈l,p∈sc n)->Pre sc (rJ sc k l o):=by
    intro l;induction l with
    |nil=>intro o h _ _;exact h
    |cons p l L=>intro o h z B;exact L _ (Ut k p.2 o h (.inr ⟨n,z,p,B p ai,rfl⟩)) ((FO k p.2 o).subset z) λq K=>B q (by simp[K])
   exact key _ _ (h.snoc D) ai λp I=>I
def Can.pred {T F:Nat} {f:FSt} (h:Can T F f) {i:Nat} (z:0<i) (B:i<f.au.length):∃j,j<i/\∃p∈iD f j,p.2=i:=by have l:Pre (iD f) (jo (jI f) (f.au.length) 0):=Ut _ _ _ (λi x K=>by simp at K) (.inl rfl);rw[h.ord] at l;obtain⟨j,D,y,q,I⟩:=l i i (p9 B) z;rw[p9 af] at q;cases q;exact⟨j,D,I⟩
structure TO (T:Nat) (sb:Int->Int->Prop):Prop where
 rl:∀{a b},sb a b->0<=a/\a<(T:Int)
 rr:∀{a b},sb a b->0<=b/\b<(T:Int)
 refl:∀{a},0<=a->a<(T:Int)->sb a a
 trans:∀{a b c},sb a b->sb b c->sb a c
 anti:∀{a b},sb a b->sb b a->a=b
 top:∀{a},0<=a->a<(T:Int)->sb 0 a
def yW (sb:Int->Int->Prop) (G:Gr) (r:Nat) (H:Gr) (s:Nat) (m:Nat->Nat):Prop:=
 m r=s/\∀i,qG G.sc r i->sb (G.ty i) (H.ty (m i))/\∀p∈G.sc i,(p.1,m p.2)∈H.sc (m i)
def yW.LX {sb:Int->Int->Prop} {G H:Gr} {r s:Nat} {m:Nat->Nat} (h:yW sb G r H s m) {i:Nat} (l:qG G.sc r i):qG H.sc s (m i):=by induction l with
 |root=>rw[h.1];exact .root
 |step q z B=>exact B.step ((h.2 _ q).2 _ z)
def yW.comp {s1 s2 s3:Int->Int->Prop} (D:∀{a b c},s1 a b->s2 b c->s3 a c) {G H K:Gr} {r s t:Nat} {m z:Nat->Nat} (h:yW s1 G r H s m) (q:yW s2 H s K t z):yW s3 G r K t (λi=>z (m i)):=
 ⟨by show z (m r)=t;rw[h.1,q.1],λi l=>⟨D (h.2 i l).1 (q.2 _ (h.LX l)).1,λp B=>(q.2 _ (h.LX l)).2 _ ((h.2 i l).2 p B)⟩⟩
def Le (sb:Int->Int->Prop) (f g:FSt):Prop:=∃m,yW sb (jI f) 0 (jI g) 0 m
def yW.idG {sb:Int->Int->Prop} {G:Gr} {r:Nat} (h:∀i,qG G.sc r i->sb (G.ty i) (G.ty i)):yW sb G r G r id:=⟨rfl,λi l=>⟨h i l,λp q=>q⟩⟩
section
variable {T F:Nat} {sb:Int->Int->Prop} (hT:TO T sb)
include hT
theorem Le.refl {f:FSt} (h:Can T F f):Le sb f f:=⟨id,yW.idG λi l=>hT.refl (h.go.tp i (h.Ms l)).1 (h.go.tp i (h.Ms l)).2⟩
theorem Le.trans {f g k:FSt} (h:Le sb f g) (l:Le sb g k):Le sb f k:=by obtain⟨m,h⟩:=h;obtain⟨q,l⟩:=l;exact⟨_,yW.comp (s1:=sb) (s2:=sb) (s3:=sb) (λh l=>hT.trans h l) h l⟩
theorem Le.anti {f g:FSt} (I:Can T F f) (K:Can T F g) (h:Le sb f g) (z:Le sb g f):f=g:=by
 obtain⟨m,h⟩:=h;obtain⟨V,z⟩:=z;have e1:∀i,qG (iD f) 0 i->V (m i)=i:=by have L:=yW.comp (s1:=sb) (s2:=sb) (s3:=sb) (λh z=>hT.trans h z) h z;intro i R;induction R with
  |root=>exact L.1
  | @step n p S D U=>have l:=(L.2 n S).2 p D;simp only[U] at l;exact((I.wT n).LW (a:=p.2) D l).symm
 have e2:∀i,qG (iD g) 0 i->m (V i)=i:=by have L:=yW.comp (s1:=sb) (s2:=sb) (s3:=sb) (λh z=>hT.trans h z) z h;intro i R;induction R with
  |root=>exact L.1
  | @step n p S D U=>have l:=(L.2 n S).2 p D;simp only[U] at l;exact((K.wT n).LW (a:=p.2) D l).symm
 rw[I.eq,K.eq];refine Xd (R:=λa b=>qG (iD f) 0 a/\m a=b) I.bd K.bd I.ne K.ne ?_ ?_ ?_ ⟨.root,h.1⟩
 .rintro a b a' b' ⟨B,rfl⟩ ⟨Q,rfl⟩;constructor
  .intro e;rw[e]
  .intro e;rw[<-e1 a B,<-e1 a' Q,e]
 .rintro a b ⟨B,rfl⟩;have hm:=h.LX B;have e:iD g (m a)=(iD f a).map λp=>(p.1,m p.2):=by
   refine(yb.ext ((I.wT a).map m) (K.wT (m a)) λq=> ?_).symm;constructor
   .intro O;obtain⟨p,D,rfl⟩:=aG.1 O;exact(h.2 a B).2 p D
   .intro O;have l:=(z.2 _ hm).2 q O;rw[e1 a B] at l;refine aG.2 ⟨_,l,?_⟩;show(q.1,m (V q.2))=q;rw[e2 q.2 (hm.step O)]
  show pS _ (iD f a) (iD g (m a));rw[e];exact pS.Gc λp D=>⟨rfl,B.step D,rfl⟩
 .rintro a b ⟨B,rfl⟩;have l:=(z.2 _ (h.LX B)).1;rw[e1 a B] at l;exact hT.anti (h.2 a B).1 l
end
section
variable {T F:Nat} {G:Gr} {N r:Nat} (hG:GO T F G N) (hr:r<N)
include hG hr
theorem XB {sb:Int->Int->Prop} (B:∀{a},0<=a->a<(T:Int)->sb a a):yW sb G r (jI (kI G N r)) 0 (λi=>(jo G N r).idxOf i):=by
 refine⟨vW (sw hG.bd hr).nd (yC hG.bd hr),λi l=> ?_⟩;have q:=(IL hG.bd hr).2 l;have:=hG.tp i (l.lt hG.bd hr);refine⟨?_,λp z=> ?_⟩
 .show sb _ (mI _ ((jo G N r).idxOf i));rw[Og (vJ q)];exact B this.1 this.2
 .show _∈iD _ ((jo G N r).idxOf i);rw[Bt (vJ q)];exact aG.2 ⟨p,z,rfl⟩
theorem Xc {sb:Int->Int->Prop} (Q:∀{a},0<=a->a<(T:Int)->sb a a):yW sb (jI (kI G N r)) 0 G r (λi=>(jo G N r).getD i r):=by
 have K:=yC hG.bd hr;refine⟨by show(jo G N r).getD 0 r=r;rw[bA,K];rfl,λi O=> ?_⟩;obtain⟨x,z⟩:=Of (O.lt (U5 hG hr) (U7 hG hr));have D:=aR z;have:=hG.tp x ((sw hG.bd hr).lt x D);have B:(jo G N r).getD i r=x:=by rw[bA,z];rfl
 refine⟨?_,λp l=> ?_⟩
 .show sb (mI _ _) (G.ty ((jo G N r).getD i r));rw[Og z,B];exact Q this.1 this.2
 .have l:p∈iD (kI G N r) i:=l;rw[Bt z] at l;obtain⟨q,I,rfl⟩:=aG.1 l;have L:=vJ (yD hG.bd hr D I);show(q.1,(jo G N r).getD _ r)∈G.sc ((jo G N r).getD i r);rw[B,bA,L];exact I
end
