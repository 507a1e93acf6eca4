/- READING. -/
import Derived.Test.YthphfjcnkinkpaaGreatDoorAmI
import Derived.Deep.Slices
import Derived.OpenShut
import Derived.Carry
import Derived.ProofKit
import Derived.Test.YthphfjcnkinkpaaGreatDoorClT
set_option linter.all false
namespace Go.AM
open Go.RowKit Go.ChangeShapes Go.WideShapes Go.ChangeAt
mutual
def AV.bulk:AV->Nat
 | .str s=>s.length+1
 | .dD _ xs=>BL xs+1
 | .agg cs=>nh cs
 | .bool _=>1
 | .int _ _=>1
 | .fn _ _=>1
 | .gU cs=>nh cs
 | .ref _=>1
 | .mp _ _=>1
 | .self _=>1
 | .qh=>1
 | .tS=>1
 | .hole=>1
def nh:List AV->Nat
 |[]=>0
 |a::l=>AV.bulk a+nh l
def BL:List (List AV)->Nat
 |[]=>0
 |c::l=>nh c+BL l
end
mutual
def AV.wf:AV->Prop
 | .str s=>s.length<=maxLen
 | .dD _ xs=>wfR xs
 | .agg cs=>W6 cs
 | .bool _=>True
 | .int k n=>(Lit.int k n).wf=true
 | .fn _ _=>True
 | .gU cs=>W6 cs
 | .ref _=>True
 | .mp _ _=>True
 | .self _=>True
 | .qh=>True
 | .tS=>True
 | .hole=>True
def W6:List AV->Prop
 |[]=>True
 |a::l=>AV.wf a/\W6 l
def wfR:List (List AV)->Prop
 |[]=>True
 |c::l=>W6 c/\wfR l
end
theorem Ot (a b:List AV):nh (a++b)=nh a+nh b:=by induction a with
 |nil=>simp[nh]
 |cons x a l=>simp[gF,nh];omega
def W7 {a b:List AV}:W6 (a++b)↔W6 a/\W6 b:=by induction a with
 |nil=>simp[W6]
 |cons x a l=>simp_all[W6,rM]
def wfR_all {l:List (List AV)} (h:∀c∈l,W6 c):wfR l:=by induction l with
 |nil=>trivial
 |cons c l z=>exact⟨h c ai,z λx q=>h x (by simp[q])⟩
def Zd {l:List (List AV)} {c:List AV} (q:c∈l):nh c<=BL l:=by induction l with
 |nil=>cases q
 |cons x l z=>simp[BL];grind
structure vM {H:Type} (bk:DataW H->Nat) (U1:List (DataW H)->Nat):Prop where
 str:∀l,bk (.lit (.string l))=l.length+1
 lit:∀l,1<=bk (.lit l)
 nil:1<=bk .nil
 slice:∀e s,bk (.slice e s)=U1 e+U1 s+1
 agg:∀p,bk (.agg p)=U1 p+1
 nilA:U1 []=0
 abl:∀d r,U1 (d::r)=bk d+U1 r
def muW (w:World):Mu:=λb j=>Ii w b j
def pub_muW (w:World):Mm (muW w) w:=λ_ _ _ h=>h
section
variable {H:Type} {enc:TypeId×Value->H} {P:Program} {w:World} {bk:DataW H->Nat} {U1:List (DataW H)->Nat}
def AY (enc:TypeId×Value->H) (P:Program) (w:World) (bk:DataW H->Nat) (n:Nat) (t:TypeId) (Q:List AV->Prop):Prop:=
 ∀q d z,DataW.trod enc P w 0 (λ_=>true) true n t q=some (d,z)->∃l,Q l/\lD (muW w) l q/\nh l<=bk d/\W6 l
def AY.zero {t:TypeId} {Q:List AV->Prop}:AY enc P w bk 0 t Q:=λl d q h=>by simp[DataW.trod] at h
def AY.mono {n:Nat} {t:TypeId} {Q l:List AV->Prop} (h:AY enc P w bk n t Q) (D:∀a,Q a->l a):AY enc P w bk n t l:=λI d K B=>let⟨a,q,z⟩:=h _ d _ B;⟨a,D a q,z⟩
def P3 (q:vM bk U1) {n:Nat} {t:TypeId} {k:IntKind} (z:P.underlying t=some (.int k)):AY enc P w bk n t λl=>∃x,l=dO k x:=by
 intro I d K h;obtain⟨x,rfl,D,B⟩:=DataW.trod_int z h;obtain⟨rfl,rfl⟩:=D;refine⟨_,⟨x,rfl⟩,⟨cQ (by simp[rep]) dR,by simp[Value.oneCell']⟩,?_,?_⟩
 .exact q.lit _
 .exact⟨B,trivial⟩
def Ef (q:vM bk U1) {n:Nat} {t:TypeId} (z:P.underlying t=some .string):AY enc P w bk n t λl=>∃x,l=oM x:=by
 intro D d K h;obtain⟨s,rfl,B,I⟩:=DataW.trod_string z h;obtain⟨rfl,rfl⟩:=B;refine⟨oM s.data.toList,⟨_,rfl⟩,⟨cQ (by simp[rep]) dR,by simp[Value.oneCell']⟩,?_,?_⟩
 .simp only[oM,nh,AV.bulk,q.str];omega
 .refine⟨?_,trivial⟩;assumption
def MP {B:Mu} {z b:Nat}:∀{xs:List (List AV)} {l:Nat},(∀i x,xs[i]? =some x->∃q,lD B x q/\q.length=z/\∀j u,q[j]? =some u->B b (l+i *z+j)=some u)->lE B z b xs l:=by intro xs;induction xs with
 |nil=>simp[lE]
 |cons x xs K=>intro l h;obtain⟨q,D,I,L⟩:=h 0 x rfl;refine⟨⟨q,D.1,D.2,I,λj u O=>by simp_all⟩,K λi y Q=> ?_⟩;obtain⟨V,R,S,U⟩:=h (i+1) y (by assumption);grind
theorem aa4 (q:vM bk U1):∀(xs:List (List AV)) (l:List (DataW H)),xs.length=l.length->(∀(i:Nat) (x:List AV) (d:DataW H),xs[i]? =some x->l[i]? =some d->nh x<=bk d)->BL xs<=U1 l:=by intro xs;induction xs with
 |nil=>simp[BL]
 |cons x xs B=>intro l z h;cases l with
  |nil=>simp at z
  |cons d l=>
   rw[q.abl];have D:=h 0 x d rfl rfl;have:=B l (by simp_all) λi y e K I=>h (i+1) y e (by assumption) (by assumption)
   simp[BL];omega
def FN (hB:vM bk U1) {n:Nat} {t e:TypeId} {sz:Nat} (ht:P.underlying t=some (.slice e)) (hc:P.cellsOf e=sz) (hpos:0<sz) {Q:List AV->Prop} (he:AY enc P w bk n e Q):
  AY enc P w bk (n+1) t λavs=>∃xs,avs=[.dD sz xs]/\∀x∈xs,Q x:=by
 intro cs d ps h;rcases DataW.trod_slice ht h with⟨rfl,l⟩|⟨a,len,cap,elems,rest,n',hn,rfl,l,hb,hl,hm,V,hel,_,_⟩
 .simp only[cD] at l;obtain⟨rfl,rfl⟩:=l;refine⟨[.dD sz []],⟨[],rfl,ai⟩,⟨cQ ?_ dR,by simp[Value.oneCell']⟩,?_,?_⟩
  .rw[rep];grind
  .simp only[nh,AV.bulk,BL];exact hB.nil
  .simp[W6,AV.wf,wfR]
 .obtain rfl:n=n':=by omega
  simp only[cD] at l;obtain⟨rfl,rfl⟩:=l;have R:∀i,i<len->∃L:List AV,Q L/\∃z,w.cells? 0 (a.add (i *sz)) sz=some z/\lD (muW w) L z/\(∀x,elems[i]? =some x->nh L<=bk x.1)/\W6 L:=by
   intro i U;have O:=hel i U;rw[hc] at O;obtain⟨x,l⟩:∃x,elems[i]? =some x:=⟨elems[i]'(by omega),aM af⟩
   rw[l] at O;obtain⟨z,B,D⟩:=dy.1 O;obtain⟨L,k1,k2,k3,k4⟩:=he z x.1 x.2 D;exact⟨L,k1,z,B,k2,λy hy=>by simp_all,k4⟩
  obtain⟨f,hf⟩:=Deep.choose_lt R;have S:∀i x,((List.range len).map f)[i]? =some x->i<len/\x=f i:=by intro i x l;simp only[dA,cL] at l;obtain⟨j,hj,rfl⟩:=l;obtain⟨O,B⟩:=bP.1 hj;simp at O B;subst B;exact⟨O,rfl⟩
  have hmem:∀x∈(List.range len).map f,∃i,i<len/\x=f i:=by intro x l;simp only[aD,gQ] at l;obtain⟨i,U,rfl⟩:=l;exact⟨i,U,rfl⟩
  refine⟨[.dD sz ((List.range len).map f)],⟨_,rfl,λx l=> ?_⟩,⟨cQ ?_ dR,by simp[Value.oneCell']⟩,?_,?_⟩
  .grind
  .rw[rep];refine⟨some a,cap,by simp,by simpa using hl,hm,?_⟩;cases len with
   |zero=>simp
   |succ len=>
    right;have K:a.spot=none:=by
     obtain⟨_,z,B,_⟩:=hf 0 af;simp only[World.cells?,cS,gV] at B;have D:=mapM_some_get B 0 0 (by simp[hpos]);have h4:z[0]? ≠none:=by have:=zD B;simp at this;intro I;rw[List.getElem?_eq_none_iff] at I;omega
     rw[<-D] at h4;simp[Addr.add] at h4;cases hsp:a.spot with
     |none=>rfl
     |some q=>grind[World.cell?]
    obtain⟨b,off,sp⟩:=a;subst K;refine⟨b,_,rfl,MP λi x l=> ?_⟩;obtain⟨U,rfl⟩:=S i x l;obtain⟨_,z,B,k2,_⟩:=hf i U;refine⟨_,k2,by simpa using zD B,λj u hu=> ?_⟩;have hj:j<sz:=by have:=zD B;simp at this;have:=(bP.1 hu).1;omega
    have D:=mapM_some_get B j j (by simp[hj]);rw[hu,Deep.add_add] at D;have e:(⟨b,off,none⟩:Addr).add (i *sz+j)=⟨b,off+i *sz+j,none⟩:=by
     unfold Addr.add;split
     .simp
     .grind
    rw[e] at D;exact xL D (k2.2 u (aV hu))
  .simp[nh,AV.bulk,hB.slice];have:=aa4 hB ((List.range len).map f) (elems.map (·.1)) (by simp[V]) λi x d l hd=>by
    grind
   omega
  .refine⟨wfR_all λx l=> ?_,trivial⟩;grind
def Cat:List (List AV->Prop)->List AV->Prop
 |[],l=>l=[]
 |Q::q,l=>∃a b,l=a++b/\Q a/\Cat q b
def PE (P:Program):Nat->List Field->Bool
 |_,[]=>true
 |q,f::l=>Nat.beq f.offset q&&PE P (q+P.cellsOf f.type) l
def aao (P:Program):List Field->Nat
 |[]=>0
 |f::l=>P.cellsOf f.type+aao P l
def aaI (enc:TypeId×Value->H) (P:Program) (w:World) (bk:DataW H->Nat) (n:Nat):List Field->List (List AV->Prop)->Prop
 |[],[]=>True
 |f::l,Q::q=>AY enc P w bk n f.type Q/\aaI enc P w bk n l q
 |_,_=>False
def aah (hB:vM bk U1) {n:Nat} {K:List Value}:∀(z:List Field) (B:List (List AV->Prop)) (xs:List (DataW H×List MemPlace)) (l:Nat),aaI enc P w bk n z B->PE P l z=true->xs.length=z.length->l+aao P z<=K.length->
  (∀(i:Nat) (f:Field),z[i]? =some f->DataW.trod enc P w 0 (λ_=>true) true n f.type ((K.drop f.offset).take (P.cellsOf f.type))=xs[i]?)->
  ∃q,Cat B q/\lD (muW w) q ((K.drop l).take (aao P z))/\nh q<=U1 (xs.map (·.1))/\W6 q:=by
 intro z;induction z with
 |nil=>intro B xs l D _ S _ _;cases B with
  |nil=>exact⟨[],rfl,⟨by rfl,by simp[aao]⟩,by simp[nh],trivial⟩
  |cons Q B=>exact D.elim
 |cons f z ih=>intro B xs l D O S L U;cases B with
  |nil=>exact D.elim
  |cons Q B=>cases xs with
   |nil=>simp at S
   |cons x xs=>
    simp only[PE,aU] at O;have I:=beq_iff.1 O.1;simp only[aao] at L⊢;have R:=U 0 f rfl;rw[I] at R;obtain⟨V,q0,r0,b0,w0⟩:=D.1 _ _ _ R;obtain⟨a1,q1,r1,b1,w1⟩:=ih _ _ _ D.2 O.2 (by simp_all) af λi g hg=>U (i+1) g (by assumption)
    refine⟨_,⟨V,a1,rfl,q0,q1⟩,?_,?_,W7.2 ⟨w0,w1⟩⟩
    .rw[List.take_add,List.drop_drop];exact r0.append r1
    .rw[Ot,bH,hB.abl];omega
theorem ry (B:vM bk U1) {n:Nat} {t:TypeId} {z:Array Field} {Qs:List (List AV->Prop)} (L:P.underlying t=some (.struct z)) (K:PE P 0 z.toList=true) (hs:aao P z.toList=P.cellsOf t)
  (I:aaI enc P w bk n z.toList Qs):AY enc P w bk (n+1) t (Cat Qs):=by
 intro S d ps h;obtain⟨xs,R,hn,O,V,Q,l⟩:=DataW.trod_struct L h;obtain rfl:n=R:=by omega
 obtain⟨rfl,rfl⟩:=O;obtain⟨D,q,r,b,wf⟩:=aah B _ _ _ 0 I K af af λi f U=>l i f (by simp_all)
 refine⟨_,q,?_,by rw[B.agg];omega,wf⟩;grind
def arg_agg {t:TypeId} {I:Array Field} {v:Value} {d:DataW H} {S:List MemPlace} {Q:List AV->Prop} {Eo:Reach} {z:Nat} (R:P.underlying t=some (.struct I)) (B:Value.okWide P w Eo z t v)
  (L:DataW.Trod enc P w 0 (λ_=>true) true t v d S) (K:∀n,AY enc P w bk n t Q):∃l,Q l/\rep (muW w) (.agg l) v/\nh l<=bk d/\W6 l:=by
 obtain⟨D,rfl,_⟩:=WideShapes.okWide_struct R B;obtain⟨n,O⟩:=L;obtain⟨l,q,r,b,wf⟩:=K n _ _ _ O;refine⟨l,q,?_,b,wf⟩;rw[rep];exact⟨D.toList,by simp,by simpa[Value.cells] using r.1,by simpa[Value.cells] using r.2⟩
end
def ZT {P:Program} {H:Nat->Hint} {gM:eE} {q:Qp} {B:Mu} (L:Ec P=true) (D:∀f fn c,P.funcs[f]? =some fn->fn.body=some c->qW q B P (H f) fn.ntmps c) (z:ic q B P gM) {f:Nat} {avs:List AV} {us:List Value} {W:World} (V:B.le (muW W)) (I:cN (muW W) avs us)
  (K:run P H gM f (avs.map .pv) []=some (.bool true,[])):Calls P f us.toArray W λe O=>e= .returned (.bool true)/\Below W.heap.size W O:=by
 have hs:∀{avs:List _} {us:List _},cN (muW W) avs us->gT (muW W) (λ_=> .bool false) (avs.map .pv) us:=by intro avs;induction avs with
  |nil=>intro us h;assumption
  |cons a l ih=>intro us h;obtain⟨u,us',rfl,S,U⟩:=h;exact⟨u,_,rfl,S,ih U⟩
 have:=(ic.noY (NY L D z f _ _ _ _ K W _ _ _ V (pub_muW W) (λid o h=>by cases h) (λi j oi oj h=>by cases h) (hs I)) λxs=>by simp[find]).2;refine this.mono ?_;rintro e O ⟨v,μ',R,rfl,Q⟩;have hv:=Q.pure rfl;subst hv;exact⟨rfl,EO Q⟩
def DI {L:Type} {enc:TypeId×Value->L} {P:Program} (R:laidOutB P=true) {W O:World} (Q:Below W.heap.size W O):∀{B:List TypeId} {K:List Value} {D:List (DataW L)} {z:List MemPlace},(∀t∈B,P.readableRec t=true/\t<P.types.size)->
  (∀x∈z,x.block<W.heap.size)->DataW.TrodAll enc P W 0 (λ_=>true) true B K D z->DataW.TrodAll enc P O 0 (λb=>decide (b<W.heap.size)) true B K D z
 |[],[],[],_,_,_,h=>h
 |[],[],_::_,_,_,_,h=>h.elim
 |[],_::_,_,_,_,_,h=>by cases h
 |_::_,[],_,_,_,_,h=>by cases h
 |_::_,_::_,[],_,_,_,h=>h.elim
 |t::B,v::K,d::D,z,hr,l,h=>by obtain⟨p,q,S,U,rfl⟩:=h;exact⟨p,q,Below.trod R (hr t ai).1 (hr t ai).2 S Q (λx I=>l x (by simp[I])),DI R Q (λt V=>hr t (by simp[V])) (λx I=>l x (by simp[I])) U,rfl⟩
def Cv {B:Type} {enc:TypeId×Value->B} {P:Program} {W:World}:∀{z:List TypeId} {I:List Value} {l:List (DataW B)} {D:List MemPlace},DataW.TrodAll enc P W 0 (λ_=>true) true z I l D->l.length=z.length
 |[],[],[],_,_=>rfl
 |[],[],_::_,_,h=>h.elim
 |[],_::_,_,_,h=>by cases h
 |_::_,[],_,_,h=>by cases h
 |_::_,_::_,[],_,h=>h.elim
 |t::z,v::I,d::l,D,h=>by obtain⟨p,q,L,K,rfl⟩:=h;simp[Cv K]
def aab {L:Type} {enc:TypeId×Value->L} {P:Program} {fn:Func} {s:ChangeSpec} {tb:TypeId} {W W':World} {args:Array Value} {I O:List (DataW L)} {before:List MemPlace} {l D z:Bool}
  (hl:laidOutB P=true) (hpar:fn.params.toList.all (λt=>P.readableRec t&&decide (t<P.types.size))=true) (B:s.vars=[]) (K:fn.resultTypes= #[tb]) (htb:P.underlying tb=some .bool)
  (U:∀I:List (DataW L),I.length=fn.params.size->s.fn L I={ results:=[.lit (.bool true)],args:=I })
  (R:DataW.Whole enc P fn.params.toList s.vars l W args.toList I O before) (hb:Below W.heap.size W W'):
  s.post enc P fn l D z false W args (.bool true) W':=by
 have V:=R.lt;have S:=R;obtain⟨p,q,hA,Q,rfl,_,_⟩:=R;rw[B] at Q;obtain⟨rfl,rfl⟩:O=[]/\q=[]:=by cases O with
  |nil=>exact⟨rfl,Q⟩
  |cons g O=>exact Q.elim
 have hlen:=Cv hA;have e:=U _ af;refine⟨I,[],_,[],p,[],S,?_,?_,?_,hb.frame _,λh=>by cases h⟩
 .rw[eo,e,K];exact trodAll_cons_mk (shut_bool htb _) trodAll_mk0
 .rw[eo,e];refine DI hl hb (λt ht=> ?_) (λx hx=>V x (by simp[hx])) hA;grind
 .rw[eo,e,B];rfl
end Go.AM
namespace Go.Proofs.YthphfjcnkinkpaaGreatDoor.cl.pf
open Go Go.AM
def pK {q z:Type} (R:q->z->Prop):List q->List z->Prop
 |[],[]=>True
 |a::l,b::m=>R a b/\pK R l m
 |_,_=>False
def pK.append {B D:Type} {R:B->D->Prop}:∀{l q:List B} {m z:List D},pK R l m->pK R q z->pK R (l++q) (m++z)
 |[],_,[],_,_,h=>h
 |a::l,_,b::m,_,h,k=>⟨h.1,pK.append h.2 k⟩
 |[],_,_::_,_,h,_=>h.elim
 |_::_,_,[],_,h,_=>h.elim
def pK.map_eq {z B D:Type} {R:z->B->Prop} {f:z->D} {g:B->D} (q:∀a b,R a b->f a=g b):∀{l:List z} {m:List B},pK R l m->l.map f=m.map g
 |[],[],_=>rfl
 |a::l,b::m,h=>by simp only[bH,q a b h.1,pK.map_eq q h.2]
 |[],_::_,h=>h.elim
 |_::_,[],h=>h.elim
def pK.mem_iff {R:Nat->Nat->Prop} (D:∀{a b z B},R a b->R z B->(a=z↔b=B)) {a b:Nat} (q:R a b):∀{l m:List Nat},pK R l m->(a∈l↔b∈m)
 |[],[],_=>by simp
 |x::l,y::m,h=>by rw[aN,aN,pK.mem_iff D q h.2,D q h.1]
 |[],_::_,h=>h.elim
 |_::_,[],h=>h.elim
def pK.idx {R:Nat->Nat->Prop} (D:∀{a b z B},R a b->R z B->(a=z↔b=B)) {a b:Nat} (q:R a b):∀{l m:List Nat},pK R l m->l.idxOf a=m.idxOf b
 |[],[],_=>rfl
 |x::l,y::m,h=>by
  rw[uX,uX,pK.idx D q h.2];have:=D h.1 q;by_cases e:x=a
  .simp[e,this.1 e]
  .have I:y≠b:=λh=>e (this.2 h)
   simp[lM.2 e,lM.2 I]
 |[],_::_,h=>h.elim
 |_::_,[],h=>h.elim
def wC:∀{N:Nat} {o:List Nat},o.Nodup->(∀x∈o,x<N)->o.length<=N
 |0,o,_,h=>by cases o with
  |nil=>simp
  |cons x o=>have:=h x (by simp);omega
 |N+1,o,l,h=>by
  have B:(o.filter (· !=N)).Nodup:=l.filter _;have L:=wC (N:=N) B λx q=>by rw[cT] at q;have:=h x q.1;have:=nG.1 q.2;omega
  have D:∀{o:List Nat},o.Nodup->o.length<=(o.filter (· !=N)).length+1:=by intro o;induction o with
   |nil=>simp
   |cons x o K=>
    intro l;rw[gj] at l;by_cases e:x=N
    .subst e
     have:o.filter (· !=x)=o:=zw.2 λy I=>nG.2 λe=>l.1 (e▸I)
     simp[this]
    .have z:(x !=N)=true:=nG.2 e;have:=K l.2;simp only[nH,z,gV,bz];omega
  have:=D l;omega
structure Gr where
 sc:Nat->List (Int×Nat)
 ty:Nat->Int
def nq (sc:Nat->List (Int×Nat)):Nat->Nat->List Nat->List Nat
 |0,_,o=>o
 |k+1,n,o=>if n∈o then o else(sc n).foldl (λo p=>nq sc k p.2 o) (o++[n])
abbrev sO (sc:Nat->List (Int×Nat)) (k:Nat) (l:List (Int×Nat)) (o:List Nat):List Nat:=l.foldl (λo p=>nq sc k p.2 o) o
def Bd (sc:Nat->List (Int×Nat)) (N:Nat):Prop:=∀n,n<N->∀p∈sc n,p.2<N
structure Met (N:Nat) (o:List Nat):Prop where
 nd:o.Nodup
 lt:∀x∈o,x<N
def Met.nil {N:Nat}:Met N []:=⟨zu,λ_ h=>by cases h⟩
def Met.snoc {N n:Nat} {o:List Nat} (h:Met N o) (D:n<N) (q:n∉o):Met N (o++[n]):=
 ⟨by
  rw[jq];exact⟨h.nd,by simp,λa B b z=>by simp at z;subst z;exact λe=>q (e▸B)⟩,λx l=>by
  rcases bu.1 l with l|l
  .exact h.lt x l
  .simp at l;subst l;exact D⟩
section
variable {sc:Nat->List (Int×Nat)} {N:Nat}
def JB:∀(k n:Nat) (o:List Nat),o<+:nq sc k n o
 |0,_,o=>rN _
 |k+1,n,o=>by
  simp only[nq];split
  .exact rN _
  .refine zF (List.prefix_append o [n]) ?_;generalize o++[n]=q;generalize sc n=l;induction l generalizing q with
   |nil=>exact rN _
   |cons p l z=>exact zF (JB k p.2 q) (z _)
theorem Cz (k:Nat):∀(l:List (Int×Nat)) (o:List Nat),o<+:sO sc k l o
 |[],o=>rN _
 |p::l,o=>zF (JB k p.2 o) (Cz k l _)
theorem AS (B:Bd sc N):∀(k n:Nat) (o:List Nat),Met N o->n<N->Met N (nq sc k n o)
 |0,_,o,h,_=>h
 |k+1,n,o,h,I=>by
  simp only[nq];split
  .exact h
  .rename_i z;have key:∀(l:List (Int×Nat)) (o:List Nat),(∀p∈l,p.2<N)->Met N o->Met N (sO sc k l o):=by
    intro l;induction l with
    |nil=>intro o _ h;exact h
    |cons p l L=>intro o D h;exact L _ (λq K=>D q (by simp[K])) (AS B k p.2 o h (D p ai))
   exact key _ _ (B n I) (h.snoc I z)
def JA (k n:Nat) (o:List Nat):o.length<=(nq sc k n o).length:=(JB k n o).length_le
def UD (z:Bd sc N):∀(k n:Nat) (o:List Nat),Met N o->n<N->N<k+o.length->nq sc (k+1) n o=nq sc k n o
 |0,n,o,h,D,B=>by have:=wC h.nd h.lt;omega
 |k+1,n,o,h,D,B=>by
  rw[nq,nq];split
  .rfl
  .rename_i I;have key:∀(l:List (Int×Nat)) (o:List Nat),(∀p∈l,p.2<N)->Met N o->N<k+o.length->sO sc (k+1) l o=sO sc k l o:=by
    intro l;induction l with
    |nil=>intro o _ _ _;rfl
    |cons p l Q=>intro o K h B;have L:=K p ai;simp only[sO,gb];rw[UD z k p.2 o h L B];exact Q _ (λq O=>K q (by simp[O])) (AS z k p.2 o h L) (by have:=JA (sc:=sc) k p.2 o;omega)
   exact key _ _ (z n D) (h.snoc D I) (by simp only[bQ,c4];omega)
def Mf (l:Bd sc N) {k n:Nat} {o:List Nat} (h:Met N o) (q:n<N) (z:N<k+o.length):∀j,nq sc (k+j) n o=nq sc k n o
 |0=>rfl
 |j+1=>by rw[<-gE,UD l (k+j) n o h q af,Mf l h q z j]
def YU (q:Bd sc N) {k j n:Nat} {o:List Nat} (h:Met N o) (z:n<N) (D:N<k+o.length) (B:N<j+o.length):nq sc k n o=nq sc j n o:=by
 rcases Nat.le_total k j with l|l
 .obtain⟨d,rfl⟩:=Nat.le.dest l;exact(Mf q h z D d).symm
 .obtain⟨d,rfl⟩:=Nat.le.dest l;exact Mf q h z B d
def AR (S:Bd sc N):∀(k n:Nat) (o:List Nat),Met N o->n<N->N<k+o.length->n∈nq sc k n o/\∀x∈nq sc k n o,x∉o->∀p∈sc x,p.2∈nq sc k n o
 |0,n,o,h,V,U=>by have:=wC h.nd h.lt;omega
 |k+1,n,o,h,V,U=>by
  rw[nq];split
  .rename_i I;exact⟨I,λx K z=>absurd K z⟩
  .rename_i I;have key:∀(l:List (Int×Nat)) (o:List Nat),(∀p∈l,p.2<N)->Met N o->N<k+o.length->(∀p∈l,p.2∈sO sc k l o)/\∀x∈sO sc k l o,x∉o->∀p∈sc x,p.2∈sO sc k l o:=by
    intro l;induction l with
    |nil=>intro o _ _ _;exact⟨λp O=>by(cases O),λx K z=>absurd K z⟩
    |cons p l ih=>
     intro o hl h U;have O:=hl p ai;obtain⟨c1,c2⟩:=AR S k p.2 o h O U;have hm:=AS S k p.2 o h O;have hlen:=JA (sc:=sc) k p.2 o;obtain⟨Q,R⟩:=ih (nq sc k p.2 o) (λq D=>hl q (by simp[D])) hm af;have B:=Cz (sc:=sc) k l (nq sc k p.2 o);refine⟨λq D=> ?_,λx K z q D=> ?_⟩
     .rcases aN.1 D with rfl|D
      .exact B.subset c1
      .exact Q q D
     .by_cases L:x∈nq sc k p.2 o
      .exact B.subset (c2 x L z q D)
      .exact R x K L q D
   obtain⟨Q,R⟩:=key (sc n) (o++[n]) (S n V) (h.snoc V I) (by simp only[bQ,c4];omega);have B:=Cz (sc:=sc) k (sc n) (o++[n]);refine⟨B.subset ai,λx K z q D=> ?_⟩;by_cases e:x=n
   .subst e;exact Q q D
   .exact R x K (by simp[z,e]) q D
inductive kO (sc:Nat->List (Int×Nat)) (r:Nat):Nat->Prop where
 |root:kO sc r r
 |step {n:Nat} {p:Int×Nat}:kO sc r n->p∈sc n->kO sc r p.2
def YW {r:Nat}:∀(k n:Nat) (o:List Nat),kO sc r n->∀x∈nq sc k n o,x∉o->kO sc r x
 |0,n,o,_,x,B,z=>absurd B z
 |k+1,n,o,K,x,B,z=>by
  rw[nq] at B;split at B
  .exact absurd B z
  .have key:∀(l:List (Int×Nat)) (o:List Nat),(∀p∈l,kO sc r p.2)->∀x∈sO sc k l o,x∉o->kO sc r x:=by
    intro l;induction l with
    |nil=>intro o _ x B z;exact absurd B z
    |cons p l Q=>
     intro o I x B z;by_cases D:x∈nq sc k p.2 o
     .exact YW k p.2 o (I p ai) x D z
     .exact Q _ (λq O=>I q (by simp[O])) x B D
   by_cases e:x=n
   .subst e;exact K
   .exact key _ _ (λp L=>K.step L) x B (by simp[z,e])
end
def iy (G:Gr) (N r:Nat):List Nat:=nq G.sc (N+1) r []
def kj (G:Gr) (N r:Nat):FSt:=⟨(iy G N r).map λn=>⟨G.ty n,(G.sc n).map λp=>⟨p.1,((iy G N r).idxOf p.2:Nat)⟩⟩⟩
section
variable {G:Gr} {N r:Nat}
def sn (l:Bd G.sc N) (hr:r<N):Met N (iy G N r):=AS l _ _ _ Met.nil hr
def adZ (l:Bd G.sc N) (hr:r<N):r∈iy G N r:=(AR l (N+1) r [] Met.nil hr ai).1
def yX (l:Bd G.sc N) (hr:r<N) {x:Nat} (z:x∈iy G N r) {p:Int×Nat} (q:p∈G.sc x):p.2∈iy G N r:=(AR l (N+1) r [] Met.nil hr ai).2 x z ai p q
def Jf (l:Bd G.sc N) (hr:r<N) {x:Nat}:x∈iy G N r↔kO G.sc r x:=
 ⟨λh=>YW _ _ _ .root x h ai,λh=>by induction h with
  |root=>exact adZ l hr
  |step _ q z=>exact yX l hr z q⟩
def yW (q:Bd G.sc N) (hr:r<N):(iy G N r)[0]? =some r:=by unfold iy;rw[nq];simp only[nC,gG,dK];obtain⟨t,l⟩:=Cz (sc:=G.sc) N (G.sc r) [r];show(sO G.sc N (G.sc r) [r])[0]? =some r;rw[<-l];rfl
end
def YV {L O:Nat->List (Int×Nat)} {R:Nat->Nat->Prop} (U:∀{a b Q S},R a b->R Q S->(a=Q↔b=S))
  (hs:∀a b,R a b->pK (λp q=>p.1=q.1/\R p.2 q.2) (L a) (O b)):∀(k a b:Nat) (z B:List Nat),R a b->pK R z B->pK R (nq L k a z) (nq O k b B)
 |0,a,b,z,B,_,D=>D
 |k+1,a,b,z,B,I,D=>by
  rw[nq,nq];have V:=pK.mem_iff U I D;by_cases h:a∈z
  .rw[aB h,aB (V.1 h)];exact D
  .rw[az h,az (λh'=>h (V.2 h'))];have key:∀(l m:List (Int×Nat)) (z B:List Nat),pK (λp q=>p.1=q.1/\R p.2 q.2) l m->pK R z B->pK R (sO L k l z) (sO O k m B):=by
    intro l;induction l with
    |nil=>intro m z B K D;cases m with
     |nil=>exact D
     |cons q m=>exact K.elim
    |cons p l ih=>intro m z B K D;cases m with
     |nil=>exact K.elim
     |cons q m=>exact ih m _ _ K.2 (YV U hs k p.2 q.2 z B K.1.2 D)
   exact key _ _ _ _ (hs a b I) (D.append ⟨I,trivial⟩)
def Xh {l z:Gr} {B D I K:Nat} (Q:Bd l.sc B) (S:Bd z.sc D) (h1:I<B) (h2:K<D) {R:Nat->Nat->Prop} (hR:∀{a b U V},R a b->R U V->(a=U↔b=V))
  (hs:∀a b,R a b->pK (λp q=>p.1=q.1/\R p.2 q.2) (l.sc a) (z.sc b)) (ht:∀a b,R a b->l.ty a=z.ty b) (hr:R I K):kj l B I=kj z D K:=by
 have e1:iy l B I=nq l.sc (B+D+1) I []:=YU Q Met.nil h1 ai aH;have e2:iy z D K=nq z.sc (B+D+1) K []:=YU S Met.nil h2 ai aH;have ho:pK R (iy l B I) (iy z D K):=by rw[e1,e2];exact YV hR hs _ _ _ _ _ hr trivial
 unfold kj;congr 1;refine pK.map_eq (λa b L=> ?_) ho;rw[ht a b L];congr 1;exact pK.map_eq (λp q O=>by rw[O.1,pK.idx hR O.2 ho]) (hs a b L)
end Go.Proofs.YthphfjcnkinkpaaGreatDoor.cl.pf
namespace Go.Proofs.YthphfjcnkinkpaaGreatDoor.cl.pf
open Go Go.AM
def UJ (x:Node):List (Int×Nat):=x.bV.map λa=>(a.bB,a.To.toNat)
def iN (f:FSt) (n:Nat):List (Int×Nat):=match f.ak[n]? with
 |some x=>UJ x
 |none=>[]
def oB (f:FSt) (n:Nat):Int:=match f.ak[n]? with
 |some x=>x.di
 |none=>0
def jj (f:FSt):Gr:=⟨iN f,oB f⟩
def wV (l:List (Int×Nat)):Prop:=l.Pairwise λp q=>p.1<q.1
def wV.Mk {l:List (Int×Nat)} (h:wV l) {f:Int} {a b:Nat} (q:(f,a)∈l) (z:(f,b)∈l):a=b:=by induction l with
 |nil=>cases q
 |cons p l B=>
  have h:=dN.1 h;rcases aN.1 q with q|q<;>rcases aN.1 z with z|z
  .exact(Prod.mk.inj (q.trans z.symm)).2
  .have:=h.1 _ z;subst q;simp at this
  .have:=h.1 _ q;subst z;simp at this
  .exact B h.2 q z
theorem wV.ext:∀{l m:List (Int×Nat)},wV l->wV m->(∀p,p∈l↔p∈m)->l=m
 |[],[],_,_,_=>rfl
 |[],q::m,_,_,h=>absurd ((h q).2 ai) ai
 |p::l,[],_,_,h=>absurd ((h p).1 ai) ai
 |p::l,q::m,L,O,h=>by
  have z:=dN.1 L;have B:=dN.1 O;have e:p=q:=by
   rcases aN.1 ((h p).1 ai) with e|D
   .exact e
   .rcases aN.1 ((h q).2 ai) with e|K
    .exact e.symm
    .have:=B.1 _ D;have:=z.1 _ K;omega
  subst e;rw[wV.ext z.2 B.2 λx=> ?_];constructor
  .intro I;rcases aN.1 ((h x).1 (by simp[I])) with e|D
   .have:=z.1 _ I;subst e;omega
   .exact D
  .intro I;rcases aN.1 ((h x).2 (by simp[I])) with e|D
   .have:=B.1 _ I;subst e;omega
   .exact D
def wV.map {l:List (Int×Nat)} (h:wV l) (g:Nat->Nat):wV (l.map λp=>(p.1,g p.2)):=by unfold wV;rw[jI];exact h
def wV.nil:wV []:=List.Pairwise.nil
structure GO (T F:Nat) (G:Gr) (N:Nat):Prop where
 bd:Bd G.sc N
 vP:∀n,n<N->wV (G.sc n)
 ft:∀n,n<N->∀p∈G.sc n,0<=p.1/\p.1<(F:Int)
 tp:∀n,n<N->0<=G.ty n/\G.ty n<(T:Int)
def kO.lt {sc:Nat->List (Int×Nat)} {N r i:Nat} (l:Bd sc N) (hr:r<N) (h:kO sc r i):i<N:=by induction h with
 |root=>exact hr
 |step _ q z=>exact l _ z _ q
theorem Qe {f:FSt} {n:Nat} (h:f.ak.length<=n):iN f n=[]:=by unfold iN;rw[gA h]
def wM {f:FSt} {n:Nat} (h:n<f.ak.length):iN f n=UJ f.ak[n]:=by unfold iN;rw[aM h]
theorem uF {f:FSt} {n:Nat} (h:n<f.ak.length):oB f n=f.ak[n].di:=by unfold oB;rw[aM h]
def wm:∀{o:List Nat},o.Nodup->∀{i x:Nat},o[i]? =some x->o.idxOf x=i
 |[],_,i,x,h=>by simp at h
 |y::o,l,0,x,h=>by simp at h;subst h;simp
 |y::o,l,i+1,x,h=>by
  rw[gj] at l;rw[rO] at h;have q:x∈o:=aV h
  have:(y==x)=false:=lM.2 λe=>l.1 (e▸q)
  rw[uX,this,wm l.2 h];rfl
def vR:∀{o:List Nat} {x:Nat},x∈o->o[o.idxOf x]? =some x
 |y::o,x,h=>by
  rw[uX];by_cases e:y=x
  .subst e;simp
  .rw[lM.2 e];show(y::o)[o.idxOf x+1]? =some x;rw[rO];rcases aN.1 h with h|h
   .exact absurd h.symm e
   .exact vR h
section
variable {G:Gr} {N r:Nat}
def Xg {i x:Nat} (h:(iy G N r)[i]? =some x):(kj G N r).ak[i]? =some ⟨G.ty x,(G.sc x).map λp=>⟨p.1,((iy G N r).idxOf p.2:Nat)⟩⟩:=by show(List.map _ _)[i]? =_;rw[dA,h];rfl
def BP {i x:Nat} (h:(iy G N r)[i]? =some x):iN (kj G N r) i=(G.sc x).map λp=>(p.1,(iy G N r).idxOf p.2):=by unfold iN;rw[Xg h];simp only[UJ,eG];rfl
def OC {i x:Nat} (h:(iy G N r)[i]? =some x):oB (kj G N r) i=G.ty x:=by unfold oB;rw[Xg h]
theorem Gt:(kj G N r).ak.length=(iy G N r).length:=by show(List.map _ _).length=_;simp
theorem OB {i:Nat} (h:i<(kj G N r).ak.length):∃x,(iy G N r)[i]? =some x:=by rw[Gt] at h;exact⟨_,aM h⟩
def idx_lt {o:List Nat} {x:Nat} (h:x∈o):o.idxOf x<o.length:=List.idxOf_lt_length_of_mem h
def pK.GF {z B:Type} {R:z->B->Prop} {g:z->B}:∀{l:List z},(∀p∈l,R p (g p))->pK R l (l.map g)
 |[],_=>trivial
 |p::l,h=>⟨h p ai,pK.GF λq D=>h q (by simp[D])⟩
variable {T F:Nat} (hG:GO T F G N) (hr:r<N)
include hG hr
theorem Ve:Bd (iN (kj G N r)) ((kj G N r).ak.length):=by intro i B p l;obtain⟨x,z⟩:=OB B;rw[BP z] at l;obtain⟨q,D,rfl⟩:=aD.1 l;rw[Gt];exact idx_lt (yX hG.bd hr (aV z) D)
theorem can_go:GO T F (jj (kj G N r)) ((kj G N r).ak.length):=by
 have l:∀{i x:Nat},(iy G N r)[i]? =some x->x<N:=λh=>(sn hG.bd hr).lt _ (aV h)
 refine⟨Ve hG hr,λi D=> ?_,λi D p B=> ?_,λi D=> ?_⟩<;>obtain⟨x,z⟩:=OB D
 .show wV (iN _ i);rw[BP z];exact(hG.vP x (l z)).map λy=>(iy G N r).idxOf y
 .have B:p∈iN (kj G N r) i:=B;rw[BP z] at B;obtain⟨q,I,rfl⟩:=aD.1 B;exact hG.ft x (l z) q I
 .show 0<=oB _ i/\oB _ i<_;rw[OC z];exact hG.tp x (l z)
theorem Vg:0<(kj G N r).ak.length:=by have:=aV (yW hG.bd hr);rw[Gt];exact zG this
theorem can_can:kj (jj (kj G N r)) ((kj G N r).ak.length) 0=kj G N r:=by
 have nd:=(sn hG.bd hr).nd;refine(Xh (R:=λa b=>(iy G N r)[b]? =some a) hG.bd (Ve hG hr) hr (Vg hG hr) (λ{a b z B} h l=> ?_) (λa b h=> ?_) (λa b h=> ?_) (yW hG.bd hr)).symm
 .constructor
  .intro e;subst e;rw[<-wm nd h,<-wm nd l]
  .intro e;subst e;rw[h] at l;exact fe l
 .show pK _ _ (iN _ b);rw[BP h];refine pK.GF λp q=>⟨rfl,?_⟩
  exact vR (yX hG.bd hr (aV h) q)
 .exact(OC h).symm
end
structure Can (T F:Nat) (f:FSt):Prop where
 ne:0<f.ak.length
 go:GO T F (jj f) (f.ak.length)
 eq:f=kj (jj f) (f.ak.length) 0
theorem Vf {T F:Nat} {G:Gr} {N r:Nat} (hG:GO T F G N) (hr:r<N):Can T F (kj G N r):=
 ⟨Vg hG hr,can_go hG hr,(can_can hG hr).symm⟩
def nd_all {N:Nat} {o:List Nat} (D:o.Nodup) (B:∀x∈o,x<N) (I:N<=o.length) {i:Nat} (z:i<N):i∈o:=by
 apply ff;intro h;have q:(i::o).Nodup:=gj.2 ⟨h,D⟩;have:=wC q (N:=N) λx l=>by
  rcases aN.1 l with rfl|l
  .exact z
  .exact B x l
 simp at this;omega
def asc_mem {T F:Nat} {f:FSt} (h:GO T F (jj f) (f.ak.length)) (i:Nat):wV (iN f i):=by
 by_cases l:i<f.ak.length
 .exact h.vP i l
 .rw[Qe af];exact wV.nil
namespace Can
variable {T F:Nat} {f:FSt} (h:Can T F f)
include h
theorem bd:Bd (iN f) (f.ak.length):=h.go.bd
theorem vP (i:Nat):wV (iN f i):=asc_mem h.go i
theorem met:Met (f.ak.length) (iy (jj f) (f.ak.length) 0):=sn h.go.bd h.ne
theorem olen:(iy (jj f) (f.ak.length) 0).length=f.ak.length:=by
 have:f.ak.length=(kj (jj f) f.ak.length 0).ak.length:=aP (λg:FSt=>g.ak.length) h.eq
 rw[Gt] at this;exact this.symm
theorem omem {i:Nat} (l:i<f.ak.length):i∈iy (jj f) (f.ak.length) 0:=nd_all h.met.nd h.met.lt (by rw[h.olen];exact aR _) l
theorem Eo {i:Nat} (l:i<f.ak.length):kO (iN f) 0 i:=(Jf h.go.bd h.ne).1 (h.omem l)
theorem IL {i:Nat} (l:kO (iN f) 0 i):i<f.ak.length:=l.lt h.bd h.ne
theorem oat {i:Nat} (D:kO (iN f) 0 i):(iy (jj f) (f.ak.length) 0)[i]? =some i:=by induction D with
 |root=>exact yW h.go.bd h.ne
 | @step n p K q L=>
  have l:=q;have e:iN f n=iN (kj (jj f) (f.ak.length) 0) n:=aP (λg=>iN g n) h.eq;rw[BP L] at e;have z:(p.1,(iy (jj f) (f.ak.length) 0).idxOf p.2)∈iN f n:=by rw[e];exact aD.2 ⟨p,q,rfl⟩
  have B:=(h.vP n).Mk (a:=p.2) l z;have I:p.2∈iy (jj f) (f.ak.length) 0:=h.omem (h.bd n (h.IL K) p l);have:=vR I;rw[<-B] at this;exact this
theorem ord:iy (jj f) (f.ak.length) 0=List.range (f.ak.length):=by
 apply kK;intro i;by_cases l:i<f.ak.length
 .rw[h.oat (h.Eo l),uY l]
 .rw[gA (by rw[h.olen];omega),gA (by simpa using l)]
theorem nn {x:Node} (l:x∈f.ak) {a:b9} (q:a∈x.bV):0<=a.To:=by rw[h.eq] at l;obtain⟨n,_,rfl⟩:=aD.1 l;obtain⟨p,_,rfl⟩:=aD.1 q;exact Int.natCast_nonneg _
end Can
structure TO (T:Nat) (sb:Int->Int->Prop):Prop where
 rl:∀{a b},sb a b->0<=a/\a<(T:Int)
 rr:∀{a b},sb a b->0<=b/\b<(T:Int)
 refl:∀{a},0<=a->a<(T:Int)->sb a a
 trans:∀{a b c},sb a b->sb b c->sb a c
 anti:∀{a b},sb a b->sb b a->a=b
 top:∀{a},0<=a->a<(T:Int)->sb 0 a
def tK (sb:Int->Int->Prop) (G:Gr) (r:Nat) (H:Gr) (s:Nat) (m:Nat->Nat):Prop:=
 m r=s/\∀i,kO G.sc r i->sb (G.ty i) (H.ty (m i))/\∀p∈G.sc i,(p.1,m p.2)∈H.sc (m i)
def tK.Eo {sb:Int->Int->Prop} {G H:Gr} {r s:Nat} {m:Nat->Nat} (h:tK sb G r H s m) {i:Nat} (l:kO G.sc r i):kO H.sc s (m i):=by induction l with
 |root=>rw[h.1];exact .root
 |step q z B=>exact B.step ((h.2 _ q).2 _ z)
def tK.comp {s1 s2 s3:Int->Int->Prop} (D:∀{a b c},s1 a b->s2 b c->s3 a c) {G H K:Gr} {r s t:Nat} {m z:Nat->Nat} (h:tK s1 G r H s m) (q:tK s2 H s K t z):tK s3 G r K t (λi=>z (m i)):=
 ⟨by show z (m r)=t;rw[h.1,q.1],λi l=>⟨D (h.2 i l).1 (q.2 _ (h.Eo l)).1,λp B=>(q.2 _ (h.Eo l)).2 _ ((h.2 i l).2 p B)⟩⟩
def Le (sb:Int->Int->Prop) (f g:FSt):Prop:=∃m,tK sb (jj f) 0 (jj g) 0 m
def tK.idG {sb:Int->Int->Prop} {G:Gr} {r:Nat} (h:∀i,kO G.sc r i->sb (G.ty i) (G.ty i)):tK sb G r G r id:=⟨rfl,λi l=>⟨h i l,λp q=>q⟩⟩
section
variable {T F:Nat} {sb:Int->Int->Prop} (hT:TO T sb)
include hT
theorem Le.refl {f:FSt} (h:Can T F f):Le sb f f:=⟨id,tK.idG λi l=>hT.refl (h.go.tp i (h.IL l)).1 (h.go.tp i (h.IL l)).2⟩
theorem Le.trans {f g k:FSt} (h:Le sb f g) (l:Le sb g k):Le sb f k:=by obtain⟨m,h⟩:=h;obtain⟨q,l⟩:=l;exact⟨_,tK.comp (s1:=sb) (s2:=sb) (s3:=sb) (λh l=>hT.trans h l) h l⟩
theorem Le.anti {f g:FSt} (I:Can T F f) (K:Can T F g) (h:Le sb f g) (z:Le sb g f):f=g:=by
 obtain⟨m,h⟩:=h;obtain⟨V,z⟩:=z;have e1:∀i,kO (iN f) 0 i->V (m i)=i:=by have L:=tK.comp (s1:=sb) (s2:=sb) (s3:=sb) (λh z=>hT.trans h z) h z;intro i R;induction R with
  |root=>exact L.1
  | @step n p S D U=>have l:=(L.2 n S).2 p D;simp only[U] at l;exact((I.vP n).Mk (a:=p.2) D l).symm
 have e2:∀i,kO (iN g) 0 i->m (V i)=i:=by have L:=tK.comp (s1:=sb) (s2:=sb) (s3:=sb) (λh z=>hT.trans h z) z h;intro i R;induction R with
  |root=>exact L.1
  | @step n p S D U=>have l:=(L.2 n S).2 p D;simp only[U] at l;exact((K.vP n).Mk (a:=p.2) D l).symm
 rw[I.eq,K.eq];refine Xh (R:=λa b=>kO (iN f) 0 a/\m a=b) I.bd K.bd I.ne K.ne ?_ ?_ ?_ ⟨.root,h.1⟩
 .rintro a b a' b' ⟨B,rfl⟩ ⟨Q,rfl⟩;constructor
  .intro e;rw[e]
  .intro e;rw[<-e1 a B,<-e1 a' Q,e]
 .rintro a b ⟨B,rfl⟩;have hm:=h.Eo B;have e:iN g (m a)=(iN f a).map λp=>(p.1,m p.2):=by
   refine(wV.ext ((I.vP a).map m) (K.vP (m a)) λq=> ?_).symm;constructor
   .intro O;obtain⟨p,D,rfl⟩:=aD.1 O;exact(h.2 a B).2 p D
   .intro O;have l:=(z.2 _ hm).2 q O;rw[e1 a B] at l;refine aD.2 ⟨_,l,?_⟩;show(q.1,m (V q.2))=q;rw[e2 q.2 (hm.step O)]
  show pK _ (iN f a) (iN g (m a));rw[e];exact pK.GF λp D=>⟨rfl,B.step D,rfl⟩
 .rintro a b ⟨B,rfl⟩;have l:=(z.2 _ (h.Eo B)).1;rw[e1 a B] at l;exact hT.anti (h.2 a B).1 l
end
section
variable {T F:Nat} {G:Gr} {N r:Nat} (hG:GO T F G N) (hr:r<N)
include hG hr
theorem O1 {sb:Int->Int->Prop} (B:∀{a},0<=a->a<(T:Int)->sb a a):tK sb G r (jj (kj G N r)) 0 (λi=>(iy G N r).idxOf i):=by
 refine⟨wm (sn hG.bd hr).nd (yW hG.bd hr),λi l=> ?_⟩;have q:=(Jf hG.bd hr).2 l;have:=hG.tp i (l.lt hG.bd hr);refine⟨?_,λp z=> ?_⟩
 .show sb _ (oB _ ((iy G N r).idxOf i));rw[OC (vR q)];exact B this.1 this.2
 .show _∈iN _ ((iy G N r).idxOf i);rw[BP (vR q)];exact aD.2 ⟨p,z,rfl⟩
theorem IW {sb:Int->Int->Prop} (Q:∀{a},0<=a->a<(T:Int)->sb a a):tK sb (jj (kj G N r)) 0 G r (λi=>(iy G N r).getD i r):=by
 have K:=yW hG.bd hr;refine⟨by show(iy G N r).getD 0 r=r;rw[bw,K];rfl,λi O=> ?_⟩;obtain⟨x,z⟩:=OB (O.lt (Ve hG hr) (Vg hG hr));have D:=aV z;have:=hG.tp x ((sn hG.bd hr).lt x D);have B:(iy G N r).getD i r=x:=by rw[bw,z];rfl
 refine⟨?_,λp l=> ?_⟩
 .show sb (oB _ _) (G.ty ((iy G N r).getD i r));rw[OC z,B];exact Q this.1 this.2
 .have l:p∈iN (kj G N r) i:=l;rw[BP z] at l;obtain⟨q,I,rfl⟩:=aD.1 l;have L:=vR (yX hG.bd hr D I);show(q.1,(iy G N r).getD _ r)∈G.sc ((iy G N r).getD i r);rw[B,bw,L];exact I
end
