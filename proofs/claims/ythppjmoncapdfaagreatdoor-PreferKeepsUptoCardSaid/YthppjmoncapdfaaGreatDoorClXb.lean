/- READING. -/
import Derived.Test.YthppjmoncapdfaaGreatDoorAmI
import Derived.Deep.Slices
import Derived.OpenShut
import Derived.Carry
import Derived.ProofKit
import Derived.Test.YthppjmoncapdfaaGreatDoorClT
import Derived.Test.YthppjmoncapdfaaGreatDoorRows
set_option linter.all false
namespace Go.AM
open Go.RowKit Go.ChangeShapes Go.WideShapes Go.ChangeAt
mutual
def AV.bulk:AV->Nat
 | .str s=>s.length+1
 | .dH _ xs=>yM xs+1
 | .agg cs=>mH cs
 | .bool _=>1
 | .int _ _=>1
 | .fn _ _=>1
 | .lQ cs=>mH cs
 | .ref _=>1
 | .mp _ _=>1
 | .self _=>1
 | .DF=>1
 | .qk=>1
 | .hole=>1
def mH:List AV->Nat
 |[]=>0
 |a::l=>AV.bulk a+mH l
def yM:List (List AV)->Nat
 |[]=>0
 |c::l=>mH c+yM l
end
mutual
def AV.wf:AV->Prop
 | .str s=>s.length<=maxLen
 | .dH _ xs=>wfR xs
 | .agg cs=>U7 cs
 | .bool _=>True
 | .int k n=>(Lit.int k n).wf=true
 | .fn _ _=>True
 | .lQ cs=>U7 cs
 | .ref _=>True
 | .mp _ _=>True
 | .self _=>True
 | .DF=>True
 | .qk=>True
 | .hole=>True
def U7:List AV->Prop
 |[]=>True
 |a::l=>AV.wf a/\U7 l
def wfR:List (List AV)->Prop
 |[]=>True
 |c::l=>U7 c/\wfR l
end
def L8 (a b:List AV):mH (a++b)=mH a+mH b:=by induction a with
 |nil=>simp[mH]
 |cons x a l=>simp only[e7,mH,l];omega
def U8 {a b:List AV}:U7 (a++b)↔U7 a/\U7 b:=by induction a with
 |nil=>simp[U7]
 |cons x a l=>simp only[e7,U7,l,and_assoc]
def wfR_all {l:List (List AV)} (h:∀c∈l,U7 c):wfR l:=by induction l with
 |nil=>trivial
 |cons c l z=>exact⟨h c ah,z λx q=>h x (by simp[q])⟩
def Xq {l:List (List AV)} {c:List AV} (q:c∈l):mH c<=yM l:=by induction l with
 |nil=>cases q
 |cons x l z=>
  simp only[yM];rcases aF.1 q with rfl|q
  .omega
  .have:=z q;omega
structure uC {H:Type} (bk:DataW H->Nat) (SO:List (DataW H)->Nat):Prop where
 str:∀l,bk (.lit (.string l))=l.length+1
 lit:∀l,1<=bk (.lit l)
 nil:1<=bk .nil
 slice:∀e s,bk (.slice e s)=SO e+SO s+1
 agg:∀p,bk (.agg p)=SO p+1
 nilA:SO []=0
 ZB:∀d r,SO (d::r)=bk d+SO r
def Ur (w:World):Mu:=λb j=>Eo w b j
def pub_muW (w:World):Hr (Ur w) w:=λ_ _ _ h=>h
section
variable {H:Type} {enc:TypeId×Value->H} {P:Program} {w:World} {bk:DataW H->Nat} {SO:List (DataW H)->Nat}
def Cy (enc:TypeId×Value->H) (P:Program) (w:World) (bk:DataW H->Nat) (n:Nat) (t:TypeId) (Q:List AV->Prop):Prop:=
 ∀q d z,DataW.trod enc P w 0 (λ_=>true) true n t q=some (d,z)->∃l,Q l/\j4 (Ur w) l q/\mH l<=bk d/\U7 l
def Cy.zero {t:TypeId} {Q:List AV->Prop}:Cy enc P w bk 0 t Q:=λl d q h=>by simp[DataW.trod] at h
def Cy.mono {n:Nat} {t:TypeId} {Q l:List AV->Prop} (h:Cy enc P w bk n t Q) (I:∀a,Q a->l a):Cy enc P w bk n t l:=λq d K D=>let⟨a,z,B⟩:=h q d K D;⟨a,I a z,B⟩
def UK (z:uC bk SO) {n:Nat} {t:TypeId} {k:IntKind} (B:P.underlying t=some (.int k)):Cy enc P w bk n t λl=>∃x,l=bZ k x:=by
 intro I d K h;obtain⟨x,rfl,q,D⟩:=DataW.trod_int B h;simp only[bz] at q;obtain⟨rfl,rfl⟩:=q;refine⟨bZ k x,⟨x,rfl⟩,⟨bP (by simp[rep]) dg,by simp[Value.oneCell']⟩,?_,?_⟩
 .simp only[bZ,mH,AV.bulk];exact z.lit _
 .exact⟨D,trivial⟩
def ND (z:uC bk SO) {n:Nat} {t:TypeId} (B:P.underlying t=some .string):Cy enc P w bk n t λl=>∃x,l=jr x:=by
 intro D d K h;obtain⟨s,rfl,q,I⟩:=DataW.trod_string B h;simp only[bz] at q;obtain⟨rfl,rfl⟩:=q;refine⟨jr s.data.toList,⟨_,rfl⟩,⟨bP (by simp[rep]) dg,by simp[Value.oneCell']⟩,?_,?_⟩
 .simp only[jr,mH,AV.bulk,z.str];omega
 .refine⟨?_,trivial⟩
  have:s.data.toList.length=s.size:=by rw[zk];rfl
  simp only[AV.wf];omega
def KK {D:Mu} {q b:Nat}:∀{xs:List (List AV)} {l:Nat},(∀i x,xs[i]? =some x->∃z,j4 D x z/\z.length=q/\∀j u,z[j]? =some u->D b (l+i *q+j)=some u)->kH D q b xs l:=by intro xs;induction xs with
 |nil=>intro l _;simp[kH]
 |cons x xs Q=>intro l h;rw[kH];obtain⟨z,I,K,L⟩:=h 0 x rfl;refine⟨⟨z,I.1,I.2,K,λj u B=>by have:=L j u B;simpa using this⟩,Q λi y O=> ?_⟩;obtain⟨V,R,S,U⟩:=h (i+1) y (by simpa using O);refine⟨V,R,S,λj u B=> ?_⟩;have:=U j u B;rwa[show l+(i+1) *q+j=l+q+i *q+j from by rw[j8];omega] at this
def Zn (z:uC bk SO):∀(xs:List (List AV)) (l:List (DataW H)),xs.length=l.length->(∀(i:Nat) (x:List AV) (d:DataW H),xs[i]? =some x->l[i]? =some d->mH x<=bk d)->yM xs<=SO l:=by intro xs;induction xs with
 |nil=>intro l _ _;simp[yM]
 |cons x xs I=>intro l q h;cases l with
  |nil=>simp at q
  |cons d l=>
   rw[z.ZB];have K:=h 0 x d rfl rfl;have:=I l (by simpa using q) λi y e D B=>h (i+1) y e (by simpa using D) (by simpa using B)
   simp only[yM];omega
def Ji (hB:uC bk SO) {n:Nat} {t e:TypeId} {sz:Nat} (ht:P.underlying t=some (.slice e)) (hc:P.cellsOf e=sz) (hpos:0<sz) {Q:List AV->Prop} (he:Cy enc P w bk n e Q):
  Cy enc P w bk (n+1) t λXl=>∃xs,Xl=[.dH sz xs]/\∀x∈xs,Q x:=by
 intro cs d ps h;rcases DataW.trod_slice ht h with⟨rfl,l⟩|⟨a,len,cap,elems,rest,n',hn,rfl,l,hb,hl,hm,hlen,hel,_,_⟩
 .simp only[bz] at l;obtain⟨rfl,rfl⟩:=l;refine⟨[.dH sz []],⟨[],rfl,ah⟩,⟨bP ?_ dg,by simp[Value.oneCell']⟩,?_,?_⟩
  .rw[rep];exact⟨none,0,rfl,aT _,by simp[maxLen], .inl rfl⟩
  .simp only[mH,AV.bulk,yM];exact hB.nil
  .simp[U7,AV.wf,wfR]
 .obtain rfl:n=n':=by omega
  simp only[bz] at l;obtain⟨rfl,rfl⟩:=l;have each:∀i,i<len->∃U:List AV,Q U/\∃z,w.cells? 0 (a.add (i *sz)) sz=some z/\j4 (Ur w) U z/\(∀x,elems[i]? =some x->mH U<=bk x.1)/\U7 U:=by
   intro i D;have V:=hel i D;rw[hc] at V;obtain⟨x,l⟩:∃x,elems[i]? =some x:=⟨elems[i]'(by omega),aK af⟩
   rw[l] at V;obtain⟨z,B,O⟩:=dL.1 V;obtain⟨U,k1,k2,k3,k4⟩:=he z x.1 x.2 O;exact⟨U,k1,z,B,k2,λy hy=>by rw[l] at hy;injection hy with hy;subst hy;exact k3,k4⟩
  obtain⟨f,hf⟩:=Deep.choose_lt each;have K:∀i x,((List.range len).map f)[i]? =some x->i<len/\x=f i:=by intro i x l;simp only[dB,bY] at l;obtain⟨j,hj,rfl⟩:=l;obtain⟨V,B⟩:=bD.1 hj;simp at V B;subst B;exact⟨V,rfl⟩
  have L:∀x∈(List.range len).map f,∃i,i<len/\x=f i:=by intro x l;simp only[aC,eH] at l;obtain⟨i,D,rfl⟩:=l;exact⟨i,D,rfl⟩
  refine⟨[.dH sz ((List.range len).map f)],⟨_,rfl,λx l=> ?_⟩,⟨bP ?_ dg,by simp[Value.oneCell']⟩,?_,?_⟩
  .obtain⟨i,D,rfl⟩:=L x l;exact(hf i D).1
  .rw[rep];refine⟨some a,cap,by simp,by simpa using hl,hm,?_⟩;cases len with
   |zero=>exact .inl ah
   |succ len=>
    right;have I:a.spot=none:=by
     obtain⟨_,z,B,_⟩:=hf 0 af;simp only[World.cells?,cV,fQ] at B;have O:=mapM_some_get B 0 0 (by simp[hpos]);have h4:z[0]? ≠none:=by have:=xE B;simp at this;intro R;rw[Fk] at R;omega
     rw[<-O] at h4;simp only[Addr.add,zo,fQ] at h4;cases hsp:a.spot with
     |none=>rfl
     |some q=>exfalso;apply h4;simp only[World.cell?,hsp];split<;>simp
    obtain⟨b,S,sp⟩:=a;simp only at I;subst I;refine⟨b,S,rfl,KK λi x l=> ?_⟩;obtain⟨D,rfl⟩:=K i x l;obtain⟨_,z,B,k2,_⟩:=hf i D;simp only[World.cells?,cV,fQ] at B;refine⟨z,k2,by simpa using xE B,λj u hu=> ?_⟩;have hj:j<sz:=by have:=xE B;simp at this;have:=(bD.1 hu).1;omega
    have O:=mapM_some_get B j j (by simp[hj]);rw[hu,Deep.add_add] at O;unfold Ur;have e:(⟨b,S,none⟩:Addr).add (i *sz+j)=⟨b,S+i *sz+j,none⟩:=by
     unfold Addr.add;split
     .rename_i h0;rw[kY,h0];rfl
     .simp[kY]
    rw[e] at O;exact s8 O (k2.2 u (aH hu))
  .simp only[mH,AV.bulk,hB.slice];have:=Zn hB ((List.range len).map f) (elems.map (·.1)) (by simp[hlen]) λi x d l hd=>by
    obtain⟨D,rfl⟩:=K i x l;simp only[dB,bY] at hd;obtain⟨y,hy,rfl⟩:=hd;obtain⟨_,_,_,_,k,_⟩:=hf i D;exact k y hy
   omega
  .refine⟨wfR_all λx l=> ?_,trivial⟩;obtain⟨i,D,rfl⟩:=L x l;obtain⟨_,_,_,_,_,k⟩:=hf i D;exact k
def Cat:List (List AV->Prop)->List AV->Prop
 |[],l=>l=[]
 |Q::Qs,l=>∃a b,l=a++b/\Q a/\Cat Qs b
def Nl (P:Program):Nat->List Field->Bool
 |_,[]=>true
 |q,f::l=>Nat.beq f.offset q&&Nl P (q+P.cellsOf f.type) l
def UW (P:Program):List Field->Nat
 |[]=>0
 |f::l=>P.cellsOf f.type+UW P l
def YP (enc:TypeId×Value->H) (P:Program) (w:World) (bk:DataW H->Nat) (n:Nat):List Field->List (List AV->Prop)->Prop
 |[],[]=>True
 |f::l,Q::Qs=>Cy enc P w bk n f.type Q/\YP enc P w bk n l Qs
 |_,_=>False
def Yo (hB:uC bk SO) {n:Nat} {I:List Value}:∀(z:List Field) (Qs:List (List AV->Prop)) (xs:List (DataW H×List MemPlace)) (l:Nat),YP enc P w bk n z Qs->Nl P l z=true->xs.length=z.length->l+UW P z<=I.length->
  (∀(i:Nat) (f:Field),z[i]? =some f->DataW.trod enc P w 0 (λ_=>true) true n f.type ((I.drop f.offset).take (P.cellsOf f.type))=xs[i]?)->
  ∃q,Cat Qs q/\j4 (Ur w) q ((I.drop l).take (UW P z))/\mH q<=SO (xs.map (·.1))/\U7 q:=by
 intro z;induction z with
 |nil=>intro Qs xs l B _ K _ _;cases Qs with
  |nil=>exact⟨[],rfl,⟨by simp[UW,b9],by simp[UW]⟩,by simp[mH],trivial⟩
  |cons Q Qs=>exact B.elim
 |cons f z ih=>intro Qs xs l B O K L V;cases Qs with
  |nil=>exact B.elim
  |cons Q Qs=>cases xs with
   |nil=>simp at K
   |cons x xs=>
    simp only[Nl,aI] at O;have D:=beq_iff.1 O.1;simp only[UW] at L⊢;have U:=V 0 f rfl;rw[D] at U;obtain⟨R,q0,r0,b0,w0⟩:=B.1 _ x.1 x.2 U;obtain⟨S,q1,r1,b1,w1⟩:=ih Qs xs (l+P.cellsOf f.type) B.2 O.2 (by simpa using K) af λi g hg=>V (i+1) g (by simpa using hg)
    refine⟨R++S,⟨R,S,rfl,q0,q1⟩,?_,?_,U8.2 ⟨w0,w1⟩⟩
    .rw[List.take_add,qR];exact r0.append r1
    .rw[L8,aR,hB.ZB];omega
def wZ (I:uC bk SO) {n:Nat} {t:TypeId} {l:Array Field} {Qs:List (List AV->Prop)} (U:P.underlying t=some (.struct l)) (R:Nl P 0 l.toList=true) (S:UW P l.toList=P.cellsOf t)
  (L:YP enc P w bk n l.toList Qs):Cy enc P w bk (n+1) t (Cat Qs):=by
 intro cs d ps h;obtain⟨xs,V,hn,K,Q,D,z⟩:=DataW.trod_struct U h;obtain rfl:n=V:=by omega
 simp only[bz] at K;obtain⟨rfl,rfl⟩:=K;obtain⟨B,q,r,b,wf⟩:=Yo I l.toList Qs xs 0 L R (by simpa using D) af λi f O=>z i f (by simpa using O)
 refine⟨B,q,?_,by rw[I.agg];omega,wf⟩;rw[S,<-Q] at r;simpa using r
def Gz {t:TypeId} {I:Array Field} {v:Value} {d:DataW H} {S:List MemPlace} {Q:List AV->Prop} {Jh:Reach} {z:Nat} (R:P.underlying t=some (.struct I)) (B:Value.okWide P w Jh z t v)
  (L:DataW.Trod enc P w 0 (λ_=>true) true t v d S) (K:∀n,Cy enc P w bk n t Q):∃l,Q l/\rep (Ur w) (.agg l) v/\mH l<=bk d/\U7 l:=by
 obtain⟨D,rfl,_⟩:=WideShapes.okWide_struct R B;obtain⟨n,O⟩:=L;obtain⟨l,q,r,b,wf⟩:=K n _ _ _ O;refine⟨l,q,?_,b,wf⟩;rw[rep];exact⟨D.toList,by simp,by simpa[Value.cells] using r.1,by simpa[Value.cells] using r.2⟩
def Vi {t:TypeId} {v:Value} {d:DataW H} {R:List MemPlace} {Q:List AV->Prop} (O:v.cells= #[v]) (K:DataW.Trod enc P w 0 (λ_=>true) true t v d R) (I:∀n,Cy enc P w bk n t Q):
  ∃a,Q [a]/\rep (Ur w) a v/\a.bulk<=bk d/\a.wf:=by
 obtain⟨n,L⟩:=K;obtain⟨z,q,r,b,wf⟩:=I n _ _ _ L;rw[O] at r;have B:=r.length;cases z with
 |nil=>simp at B
 |cons a l=>cases l with
  |nil=>refine⟨a,q,?_,by simpa[mH] using b,wf.1⟩;have:=r.1;rw[b9] at this;obtain⟨u,S,e,D,_⟩:=this;simp at e;rw[e.1];exact D
  |cons b l=>simp at B
end
def AQ {P:Program} {H:Nat->Hint} {eY:dW} {q:Qp} {B:Mu} (L:Cg P=true) (D:∀f fn c,P.funcs[f]? =some fn->fn.body=some c->mD q B P (H f) fn.ntmps c) (z:fO q B P eY) {f:Nat} {Xl:List AV} {us:List Value} {W:World} (hB:B.le (Ur W)) (I:b9 (Ur W) Xl us)
  (K:run P H eY f (Xl.map .pv) []=some (.bool true,[])):Calls P f us.toArray W λe Q=>e= .returned (.bool true)/\Below W.heap.size W Q:=by
 have hs:∀{Xl:List AV} {us:List Value},b9 (Ur W) Xl us->iC (Ur W) (λ_=> .bool false) (Xl.map .pv) us:=by intro Xl;induction Xl with
  |nil=>intro us h;rw[b9] at h;subst h;rfl
  |cons a l ih=>intro us h;rw[b9] at h;obtain⟨u,O,rfl,V,h2⟩:=h;exact⟨u,O,rfl,V,ih h2⟩
 have:=(fO.noY (EX L D z f _ [] _ [] K W (Ur W) (λ_=> .bool false) us hB (pub_muW W) (λid o h=>by cases h) (λi j oi oj h=>by cases h) (hs I)) λxs=>by simp[find]).2;refine this.mono ?_;rintro e Q ⟨v,μ',U,rfl,R⟩;have S:=R.pure rfl;rw[rep] at S;subst S;exact⟨rfl,C8 R⟩
def BC {L:Type} {enc:TypeId×Value->L} {P:Program} (R:laidOutB P=true) {W O:World} (Q:Below W.heap.size W O):∀{B:List TypeId} {K:List Value} {D:List (DataW L)} {z:List MemPlace},(∀t∈B,P.readableRec t=true/\t<P.types.size)->
  (∀x∈z,x.block<W.heap.size)->DataW.TrodAll enc P W 0 (λ_=>true) true B K D z->DataW.TrodAll enc P O 0 (λb=>decide (b<W.heap.size)) true B K D z
 |[],[],[],_,_,_,h=>h
 |[],[],_::_,_,_,_,h=>h.elim
 |[],_::_,_,_,_,_,h=>by cases h
 |_::_,[],_,_,_,_,h=>by cases h
 |_::_,_::_,[],_,_,_,h=>h.elim
 |t::B,v::K,d::D,z,hr,l,h=>by obtain⟨p,q,S,U,rfl⟩:=h;exact⟨p,q,Below.trod R (hr t ah).1 (hr t ah).2 S Q (λx I=>l x (by simp[I])),BC R Q (λt V=>hr t (by simp[V])) (λx I=>l x (by simp[I])) U,rfl⟩
def As {B:Type} {enc:TypeId×Value->B} {P:Program} {W:World}:∀{z:List TypeId} {I:List Value} {l:List (DataW B)} {D:List MemPlace},DataW.TrodAll enc P W 0 (λ_=>true) true z I l D->l.length=z.length
 |[],[],[],_,_=>rfl
 |[],[],_::_,_,h=>h.elim
 |[],_::_,_,_,h=>by cases h
 |_::_,[],_,_,h=>by cases h
 |_::_,_::_,[],_,h=>h.elim
 |t::z,v::I,d::l,D,h=>by obtain⟨p,q,L,K,rfl⟩:=h;simp[As K]
def AX {Q:Type} {enc:TypeId×Value->Q} {P:Program} {fn:Func} {s:ChangeSpec} {tb:TypeId} {W W':World} {args:Array Value} {D R:List (DataW Q)} {before:List MemPlace} {l I z:Bool}
  (hl:laidOutB P=true) (L:fn.params.toList.all (λt=>P.readableRec t&&decide (t<P.types.size))=true) (B:s.vars=[]) (O:fn.resultTypes= #[tb]) (htb:P.underlying tb=some .bool)
  (hfn:∀D:List (DataW Q),D.length=fn.params.size->s.fn Q D={ results:=[.lit (.bool true)],args:=D })
  (U:DataW.Whole enc P fn.params.toList s.vars l W args.toList D R before) (hb:Below W.heap.size W W'):
  s.post enc P fn l I z false W args (.bool true) W':=by
 have hlt:=U.lt;have V:=U;obtain⟨p,q,hA,S,rfl,_,_⟩:=U;rw[B] at S;obtain⟨rfl,rfl⟩:R=[]/\q=[]:=by cases R with
  |nil=>exact⟨rfl,S⟩
  |cons g R=>exact S.elim
 have K:=As hA;have e:=hfn D (by rw[K,zk]);refine⟨D,[],p++[],[],p,[],V,?_,?_,?_,hb.frame _,λh=>by cases h⟩
 .rw[eW,e,O];exact trodAll_cons_mk (shut_bool htb _) trodAll_mk0
 .rw[eW,e];refine BC hl hb (λt ht=> ?_) (λx hx=>hlt x (by simp[hx])) hA;have:=cv.1 L t ht;simp only[aI,jV] at this;exact this
 .rw[eW,e,B];rfl
end Go.AM
set_option maxRecDepth 100000
namespace Go.Proofs.YthppjmoncapdfaaGreatDoor.cl
open Go Go.AM Go.RowKit Go.ChangeShapes Go.WideShapes Go.ChangeAt
def BR {T:Type} {q:T->List AV}:∀{xs:List (List AV)},(∀x∈xs,∃y:T,x=q y)->∃l:List T,xs=l.map q:=by intro xs;induction xs with
 |nil=>intro _;exact⟨[],rfl⟩
 |cons x xs D=>
  intro h;obtain⟨y,rfl⟩:=h x ah;obtain⟨l,rfl⟩:=D λz B=>h z (by simp[B])
  exact⟨y::l,rfl⟩
section
variable {H:Type} {enc:TypeId×Value->H} {w:World}
def uH:uC (H:=H) Rows.uptoBulk Rows.uptoBulkAll where
 str:=λ_=>rfl
 lit:=λl=>by cases l<;>simp[Rows.uptoBulk]
 nil:=by simp[Rows.uptoBulk]
 slice:=λ_ _=>by simp[Rows.uptoBulk]
 agg:=λ_=>by simp[Rows.uptoBulk]
 nilA:=by simp[Rows.uptoBulkAll]
 ZB:=λ_ _=>by simp[Rows.uptoBulkAll]
def rd54 (n:Nat):Cy enc P w Rows.uptoBulk n 54 λl=>∃x:bX,l=x.enc:=by cases n with
 |zero=>exact Cy.zero
 |succ n=>
  refine(wZ uH (Qs:=[λa=>∃x,a=bZ .i64 x,λa=>∃x,a=bZ .i64 x]) Tryz.underlying54 (by kernel_rfl) (by kernel_rfl) ?_).mono ?_
  .exact⟨UK uH Tryz.underlying3,UK uH Tryz.underlying3,trivial⟩
  .rintro a ⟨_,_,rfl,⟨q,rfl⟩,_,_,rfl,⟨x1,rfl⟩,rfl⟩;exact⟨⟨q,x1⟩,rfl⟩
def rd50 (n:Nat):Cy enc P w Rows.uptoBulk n 50 λq=>∃l:List bX,q=[.dH 2 (l.map bX.enc)]:=by cases n with
 |zero=>exact Cy.zero
 |succ n=>refine(Ji uH (sz:=2) Tryz.underlying50 (by kernel_rfl) (by decide) (rd54 n)).mono ?_;rintro a ⟨xs,rfl,z⟩;obtain⟨l,rfl⟩:=BR z;exact⟨l,rfl⟩
def rd52 (n:Nat):Cy enc P w Rows.uptoBulk n 52 λq=>∃x:Node,q=x.enc:=by cases n with
 |zero=>exact Cy.zero
 |succ n=>
  refine(wZ uH (Qs:=[λa=>∃x,a=bZ .i64 x,λa=>∃l:List bX,a=[.dH 2 (l.map bX.enc)]]) Tryz.underlying52 (by kernel_rfl) (by kernel_rfl) ?_).mono ?_
  .exact⟨UK uH Tryz.underlying3,rd50 n,trivial⟩
  .rintro a ⟨_,_,rfl,⟨z,rfl⟩,_,_,rfl,⟨x1,rfl⟩,rfl⟩;exact⟨⟨z,x1⟩,rfl⟩
def rd22 (n:Nat):Cy enc P w Rows.uptoBulk n 22 λq=>∃l:List Node,q=[.dH 2 (l.map Node.enc)]:=by cases n with
 |zero=>exact Cy.zero
 |succ n=>refine(Ji uH (sz:=2) Tryz.underlying22 (by kernel_rfl) (by decide) (rd52 n)).mono ?_;rintro a ⟨xs,rfl,z⟩;obtain⟨l,rfl⟩:=BR z;exact⟨l,rfl⟩
def acR (n:Nat):Cy enc P w Rows.uptoBulk n 24 λq=>∃x:FSt,q=x.enc:=by cases n with
 |zero=>exact Cy.zero
 |succ n=>
  refine(wZ uH (Qs:=[λa=>∃l:List Node,a=[.dH 2 (l.map Node.enc)]]) Tryz.underlying24 (by kernel_rfl) (by kernel_rfl) ?_).mono ?_
  .exact⟨rd22 n,trivial⟩
  .rintro a ⟨_,_,rfl,⟨z,rfl⟩,rfl⟩;exact⟨⟨z⟩,rfl⟩
end
end Go.Proofs.YthppjmoncapdfaaGreatDoor.cl
namespace Go.Proofs.YthppjmoncapdfaaGreatDoor.cl.pf
open Go Go.AM
def oy {q z:Type} (R:q->z->Prop):List q->List z->Prop
 |[],[]=>True
 |a::l,b::m=>R a b/\oy R l m
 |_,_=>False
def oy.append {B D:Type} {R:B->D->Prop}:∀{l q:List B} {m z:List D},oy R l m->oy R q z->oy R (l++q) (m++z)
 |[],_,[],_,_,h=>h
 |a::l,_,b::m,_,h,k=>⟨h.1,oy.append h.2 k⟩
 |[],_,_::_,_,h,_=>h.elim
 |_::_,_,[],_,h,_=>h.elim
def oy.map_eq {z B D:Type} {R:z->B->Prop} {f:z->D} {g:B->D} (q:∀a b,R a b->f a=g b):∀{l:List z} {m:List B},oy R l m->l.map f=m.map g
 |[],[],_=>rfl
 |a::l,b::m,h=>by simp only[aR,q a b h.1,oy.map_eq q h.2]
 |[],_::_,h=>h.elim
 |_::_,[],h=>h.elim
def oy.mem_iff {R:Nat->Nat->Prop} (D:∀{a b z B},R a b->R z B->(a=z↔b=B)) {a b:Nat} (q:R a b):∀{l m:List Nat},oy R l m->(a∈l↔b∈m)
 |[],[],_=>by simp
 |x::l,y::m,h=>by rw[aF,aF,oy.mem_iff D q h.2,D q h.1]
 |[],_::_,h=>h.elim
 |_::_,[],h=>h.elim
def oy.idx {R:Nat->Nat->Prop} (D:∀{a b z B},R a b->R z B->(a=z↔b=B)) {a b:Nat} (q:R a b):∀{l m:List Nat},oy R l m->l.idxOf a=m.idxOf b
 |[],[],_=>rfl
 |x::l,y::m,h=>by
  rw[tP,tP,oy.idx D q h.2];have:=D h.1 q;by_cases e:x=a
  .simp[e,this.1 e]
  .have I:y≠b:=λh=>e (this.2 h)
   simp[iK.2 e,iK.2 I]
 |[],_::_,h=>h.elim
 |_::_,[],h=>h.elim
def vI:∀{N:Nat} {o:List Nat},o.Nodup->(∀x∈o,x<N)->o.length<=N
 |0,o,_,h=>by cases o with
  |nil=>simp
  |cons x o=>have:=h x (by simp);omega
 |N+1,o,l,h=>by
  have B:(o.filter (· !=N)).Nodup:=l.filter _;have L:=vI (N:=N) B λx q=>by rw[cG] at q;have:=h x q.1;have:=jW.1 q.2;omega
  have D:∀{o:List Nat},o.Nodup->o.length<=(o.filter (· !=N)).length+1:=by intro o;induction o with
   |nil=>simp
   |cons x o K=>
    intro l;rw[fu] at l;by_cases e:x=N
    .subst e
     have:o.filter (· !=x)=o:=CL.2 λy I=>jW.2 λe=>l.1 (e▸I)
     simp[this]
    .have z:(x !=N)=true:=jW.2 e;have:=K l.2;simp only[fI,z,fQ,bg];omega
  have:=D l;omega
structure Gr where
 sc:Nat->List (Int×Nat)
 ty:Nat->Int
def nV (sc:Nat->List (Int×Nat)):Nat->Nat->List Nat->List Nat
 |0,_,o=>o
 |k+1,n,o=>if n∈o then o else(sc n).foldl (λo p=>nV sc k p.2 o) (o++[n])
abbrev rN (sc:Nat->List (Int×Nat)) (k:Nat) (l:List (Int×Nat)) (o:List Nat):List Nat:=l.foldl (λo p=>nV sc k p.2 o) o
def Bd (sc:Nat->List (Int×Nat)) (N:Nat):Prop:=∀n,n<N->∀p∈sc n,p.2<N
structure Met (N:Nat) (o:List Nat):Prop where
 nd:o.Nodup
 lt:∀x∈o,x<N
def Met.nil {N:Nat}:Met N []:=⟨List.nodup_nil,λ_ h=>by cases h⟩
def Met.snoc {N n:Nat} {o:List Nat} (h:Met N o) (D:n<N) (q:n∉o):Met N (o++[n]):=
 ⟨by
  rw[gV];exact⟨h.nd,by simp,λa B b z=>by simp at z;subst z;exact λe=>q (e▸B)⟩,λx l=>by
  rcases bu.1 l with l|l
  .exact h.lt x l
  .simp at l;subst l;exact D⟩
section
variable {sc:Nat->List (Int×Nat)} {N:Nat}
def Ek:∀(k n:Nat) (o:List Nat),o<+:nV sc k n o
 |0,_,o=>mQ _
 |k+1,n,o=>by
  simp only[nV];split
  .exact mQ _
  .refine xF (xG o [n]) ?_;generalize o++[n]=q;generalize sc n=l;induction l generalizing q with
   |nil=>exact mQ _
   |cons p l z=>exact xF (Ek k p.2 q) (z _)
def Av (k:Nat):∀(l:List (Int×Nat)) (o:List Nat),o<+:rN sc k l o
 |[],o=>mQ _
 |p::l,o=>xF (Ek k p.2 o) (Av k l _)
def yI (B:Bd sc N):∀(k n:Nat) (o:List Nat),Met N o->n<N->Met N (nV sc k n o)
 |0,_,o,h,_=>h
 |k+1,n,o,h,I=>by
  simp only[nV];split
  .exact h
  .rename_i z;have key:∀(l:List (Int×Nat)) (o:List Nat),(∀p∈l,p.2<N)->Met N o->Met N (rN sc k l o):=by
    intro l;induction l with
    |nil=>intro o _ h;exact h
    |cons p l L=>intro o D h;exact L _ (λq K=>D q (by simp[K])) (yI B k p.2 o h (D p ah))
   exact key _ _ (B n I) (h.snoc I z)
def Hh (k n:Nat) (o:List Nat):o.length<=(nV sc k n o).length:=(Ek k n o).length_le
def Se (z:Bd sc N):∀(k n:Nat) (o:List Nat),Met N o->n<N->N<k+o.length->nV sc (k+1) n o=nV sc k n o
 |0,n,o,h,D,B=>by have:=vI h.nd h.lt;omega
 |k+1,n,o,h,D,B=>by
  rw[nV,nV];split
  .rfl
  .rename_i I;have key:∀(l:List (Int×Nat)) (o:List Nat),(∀p∈l,p.2<N)->Met N o->N<k+o.length->rN sc (k+1) l o=rN sc k l o:=by
    intro l;induction l with
    |nil=>intro o _ _ _;rfl
    |cons p l Q=>intro o K h B;have L:=K p ah;simp only[rN,fB];rw[Se z k p.2 o h L B];exact Q _ (λq O=>K q (by simp[O])) (yI z k p.2 o h L) (by have:=Hh (sc:=sc) k p.2 o;omega)
   exact key _ _ (z n D) (h.snoc D I) (by simp only[cR,jX];omega)
def Kj (l:Bd sc N) {k n:Nat} {o:List Nat} (h:Met N o) (q:n<N) (z:N<k+o.length):∀j,nV sc (k+j) n o=nV sc k n o
 |0=>rfl
 |j+1=>by rw[<-kY,Se l (k+j) n o h q af,Kj l h q z j]
def W8 (q:Bd sc N) {k j n:Nat} {o:List Nat} (h:Met N o) (z:n<N) (D:N<k+o.length) (B:N<j+o.length):nV sc k n o=nV sc j n o:=by
 rcases Nat.le_total k j with l|l
 .obtain⟨d,rfl⟩:=Nat.le.dest l;exact(Kj q h z D d).symm
 .obtain⟨d,rfl⟩:=Nat.le.dest l;exact Kj q h z B d
def yH (S:Bd sc N):∀(k n:Nat) (o:List Nat),Met N o->n<N->N<k+o.length->n∈nV sc k n o/\∀x∈nV sc k n o,x∉o->∀p∈sc x,p.2∈nV sc k n o
 |0,n,o,h,V,U=>by have:=vI h.nd h.lt;omega
 |k+1,n,o,h,V,U=>by
  rw[nV];split
  .rename_i I;exact⟨I,λx K z=>absurd K z⟩
  .rename_i I;have key:∀(l:List (Int×Nat)) (o:List Nat),(∀p∈l,p.2<N)->Met N o->N<k+o.length->(∀p∈l,p.2∈rN sc k l o)/\∀x∈rN sc k l o,x∉o->∀p∈sc x,p.2∈rN sc k l o:=by
    intro l;induction l with
    |nil=>intro o _ _ _;exact⟨λp O=>by(cases O),λx K z=>absurd K z⟩
    |cons p l ih=>
     intro o hl h U;have O:=hl p ah;obtain⟨c1,c2⟩:=yH S k p.2 o h O U;have hm:=yI S k p.2 o h O;have hlen:=Hh (sc:=sc) k p.2 o;obtain⟨Q,R⟩:=ih (nV sc k p.2 o) (λq D=>hl q (by simp[D])) hm af;have B:=Av (sc:=sc) k l (nV sc k p.2 o);refine⟨λq D=> ?_,λx K z q D=> ?_⟩
     .rcases aF.1 D with rfl|D
      .exact B.subset c1
      .exact Q q D
     .by_cases L:x∈nV sc k p.2 o
      .exact B.subset (c2 x L z q D)
      .exact R x K L q D
   obtain⟨Q,R⟩:=key (sc n) (o++[n]) (S n V) (h.snoc V I) (by simp only[cR,jX];omega);have B:=Av (sc:=sc) k (sc n) (o++[n]);refine⟨B.subset ah,λx K z q D=> ?_⟩;by_cases e:x=n
   .subst e;exact Q q D
   .exact R x K (by simp[z,e]) q D
inductive rR (sc:Nat->List (Int×Nat)) (r:Nat):Nat->Prop where
 |root:rR sc r r
 |step {n:Nat} {p:Int×Nat}:rR sc r n->p∈sc n->rR sc r p.2
def Xa {r:Nat}:∀(k n:Nat) (o:List Nat),rR sc r n->∀x∈nV sc k n o,x∉o->rR sc r x
 |0,n,o,_,x,B,z=>absurd B z
 |k+1,n,o,K,x,B,z=>by
  rw[nV] at B;split at B
  .exact absurd B z
  .have key:∀(l:List (Int×Nat)) (o:List Nat),(∀p∈l,rR sc r p.2)->∀x∈rN sc k l o,x∉o->rR sc r x:=by
    intro l;induction l with
    |nil=>intro o _ x B z;exact absurd B z
    |cons p l Q=>
     intro o I x B z;by_cases D:x∈nV sc k p.2 o
     .exact Xa k p.2 o (I p ah) x D z
     .exact Q _ (λq O=>I q (by simp[O])) x B D
   by_cases e:x=n
   .subst e;exact K
   .exact key _ _ (λp L=>K.step L) x B (by simp[z,e])
end
def jM (G:Gr) (N r:Nat):List Nat:=nV G.sc (N+1) r []
def lK (G:Gr) (N r:Nat):FSt:=⟨(jM G N r).map λn=>⟨G.ty n,(G.sc n).map λp=>⟨p.1,((jM G N r).idxOf p.2:Nat)⟩⟩⟩
section
variable {G:Gr} {N r:Nat}
def uo (l:Bd G.sc N) (hr:r<N):Met N (jM G N r):=yI l _ _ _ Met.nil hr
def acI (l:Bd G.sc N) (hr:r<N):r∈jM G N r:=(yH l (N+1) r [] Met.nil hr ah).1
def zX (l:Bd G.sc N) (hr:r<N) {x:Nat} (z:x∈jM G N r) {p:Int×Nat} (q:p∈G.sc x):p.2∈jM G N r:=(yH l (N+1) r [] Met.nil hr ah).2 x z ah p q
def GR (l:Bd G.sc N) (hr:r<N) {x:Nat}:x∈jM G N r↔rR G.sc r x:=
 ⟨λh=>Xa _ _ _ .root x h ah,λh=>by induction h with
  |root=>exact acI l hr
  |step _ q z=>exact zX l hr z q⟩
def zW (q:Bd G.sc N) (hr:r<N):(jM G N r)[0]? =some r:=by unfold jM;rw[nV];simp only[eN,ez,dw];obtain⟨t,l⟩:=Av (sc:=G.sc) N (G.sc r) [r];show(rN G.sc N (G.sc r) [r])[0]? =some r;rw[<-l];rfl
end
def W9 {s1 s2:Nat->List (Int×Nat)} {R:Nat->Nat->Prop} (Q:∀{a b L O},R a b->R L O->(a=L↔b=O))
  (U:∀a b,R a b->oy (λp q=>p.1=q.1/\R p.2 q.2) (s1 a) (s2 b)):∀(k a b:Nat) (z B:List Nat),R a b->oy R z B->oy R (nV s1 k a z) (nV s2 k b B)
 |0,a,b,z,B,_,D=>D
 |k+1,a,b,z,B,I,D=>by
  rw[nV,nV];have S:=oy.mem_iff Q I D;by_cases h:a∈z
  .rw[au h,au (S.1 h)];exact D
  .rw[aq h,aq (λV=>h (S.2 V))];have key:∀(l m:List (Int×Nat)) (z B:List Nat),oy (λp q=>p.1=q.1/\R p.2 q.2) l m->oy R z B->oy R (rN s1 k l z) (rN s2 k m B):=by
    intro l;induction l with
    |nil=>intro m z B K D;cases m with
     |nil=>exact D
     |cons q m=>exact K.elim
    |cons p l ih=>intro m z B K D;cases m with
     |nil=>exact K.elim
     |cons q m=>exact ih m _ _ K.2 (W9 Q U k p.2 q.2 z B K.1.2 D)
   exact key _ _ _ _ (U a b I) (D.append ⟨I,trivial⟩)
def Vp {l z:Gr} {B D I K:Nat} (Q:Bd l.sc B) (S:Bd z.sc D) (h1:I<B) (h2:K<D) {R:Nat->Nat->Prop} (hR:∀{a b U V},R a b->R U V->(a=U↔b=V))
  (hs:∀a b,R a b->oy (λp q=>p.1=q.1/\R p.2 q.2) (l.sc a) (z.sc b)) (ht:∀a b,R a b->l.ty a=z.ty b) (hr:R I K):lK l B I=lK z D K:=by
 have e1:jM l B I=nV l.sc (B+D+1) I []:=W8 Q Met.nil h1 ah aD;have e2:jM z D K=nV z.sc (B+D+1) K []:=W8 S Met.nil h2 ah aD;have ho:oy R (jM l B I) (jM z D K):=by rw[e1,e2];exact W9 hR hs _ _ _ _ _ hr trivial
 unfold lK;congr 1;refine oy.map_eq (λa b L=> ?_) ho;rw[ht a b L];congr 1;exact oy.map_eq (λp q O=>by rw[O.1,oy.idx hR O.2 ho]) (hs a b L)
end Go.Proofs.YthppjmoncapdfaaGreatDoor.cl.pf
namespace Go.Proofs.YthppjmoncapdfaaGreatDoor.cl.pf
open Go Go.AM
def Su (x:Node):List (Int×Nat):=x.bC.map λa=>(a.aS,a.To.toNat)
def iW (f:FSt) (n:Nat):List (Int×Nat):=match f.aj[n]? with
 |some x=>Su x
 |none=>[]
def nw (f:FSt) (n:Nat):Int:=match f.aj[n]? with
 |some x=>x.cO
 |none=>0
def mI (f:FSt):Gr:=⟨iW f,nw f⟩
def y7 (l:List (Int×Nat)):Prop:=l.Pairwise λp q=>p.1<q.1
def y7.Kt {l:List (Int×Nat)} (h:y7 l) {f:Int} {a b:Nat} (q:(f,a)∈l) (z:(f,b)∈l):a=b:=by induction l with
 |nil=>cases q
 |cons p l B=>
  have h:=dr.1 h;rcases aF.1 q with q|q<;>rcases aF.1 z with z|z
  .exact(Prod.mk.inj (q.trans z.symm)).2
  .have:=h.1 _ z;subst q;simp at this
  .have:=h.1 _ q;subst z;simp at this
  .exact B h.2 q z
theorem y7.ext:∀{l m:List (Int×Nat)},y7 l->y7 m->(∀p,p∈l↔p∈m)->l=m
 |[],[],_,_,_=>rfl
 |[],q::m,_,_,h=>absurd ((h q).2 ah) ah
 |p::l,[],_,_,h=>absurd ((h p).1 ah) ah
 |p::l,q::m,L,O,h=>by
  have z:=dr.1 L;have B:=dr.1 O;have e:p=q:=by
   rcases aF.1 ((h p).1 ah) with e|D
   .exact e
   .rcases aF.1 ((h q).2 ah) with e|K
    .exact e.symm
    .have:=B.1 _ D;have:=z.1 _ K;omega
  subst e;rw[y7.ext z.2 B.2 λx=> ?_];constructor
  .intro I;rcases aF.1 ((h x).1 (by simp[I])) with e|D
   .have:=z.1 _ I;subst e;omega
   .exact D
  .intro I;rcases aF.1 ((h x).2 (by simp[I])) with e|D
   .have:=B.1 _ I;subst e;omega
   .exact D
def y7.map {l:List (Int×Nat)} (h:y7 l) (g:Nat->Nat):y7 (l.map λp=>(p.1,g p.2)):=by unfold y7;rw[gT];exact h
def y7.nil:y7 []:=List.Pairwise.nil
structure GO (T F:Nat) (G:Gr) (N:Nat):Prop where
 bd:Bd G.sc N
 x8:∀n,n<N->y7 (G.sc n)
 ft:∀n,n<N->∀p∈G.sc n,0<=p.1/\p.1<(F:Int)
 tp:∀n,n<N->0<=G.ty n/\G.ty n<(T:Int)
def rR.lt {sc:Nat->List (Int×Nat)} {N r i:Nat} (l:Bd sc N) (hr:r<N) (h:rR sc r i):i<N:=by induction h with
 |root=>exact hr
 |step _ q z=>exact l _ z _ q
theorem NQ {f:FSt} {n:Nat} (h:f.aj.length<=n):iW f n=[]:=by unfold iW;rw[fA h]
def qq {f:FSt} {n:Nat} (h:n<f.aj.length):iW f n=Su f.aj[n]:=by unfold iW;rw[aK h]
theorem ou {f:FSt} {n:Nat} (h:n<f.aj.length):nw f n=f.aj[n].cO:=by unfold nw;rw[aK h]
def uR:∀{o:List Nat},o.Nodup->∀{i x:Nat},o[i]? =some x->o.idxOf x=i
 |[],_,i,x,h=>by simp at h
 |y::o,l,0,x,h=>by simp at h;subst h;simp
 |y::o,l,i+1,x,h=>by
  rw[fu] at l;rw[qS] at h;have q:x∈o:=aH h
  have:(y==x)=false:=iK.2 λe=>l.1 (e▸q)
  rw[tP,this,uR l.2 h];rfl
def wH:∀{o:List Nat} {x:Nat},x∈o->o[o.idxOf x]? =some x
 |y::o,x,h=>by
  rw[tP];by_cases e:y=x
  .subst e;simp
  .rw[iK.2 e];show(y::o)[o.idxOf x+1]? =some x;rw[qS];rcases aF.1 h with h|h
   .exact absurd h.symm e
   .exact wH h
section
variable {G:Gr} {N r:Nat}
def Vn {i x:Nat} (h:(jM G N r)[i]? =some x):(lK G N r).aj[i]? =some ⟨G.ty x,(G.sc x).map λp=>⟨p.1,((jM G N r).idxOf p.2:Nat)⟩⟩:=by show(List.map _ _)[i]? =_;rw[dB,h];rfl
def BM {i x:Nat} (h:(jM G N r)[i]? =some x):iW (lK G N r) i=(G.sc x).map λp=>(p.1,(jM G N r).idxOf p.2):=by unfold iW;rw[Vn h];simp only[Su,eS];rfl
def Mf {i x:Nat} (h:(jM G N r)[i]? =some x):nw (lK G N r) i=G.ty x:=by unfold nw;rw[Vn h]
def HP:(lK G N r).aj.length=(jM G N r).length:=by show(List.map _ _).length=_;simp
def HL {i:Nat} (h:i<(lK G N r).aj.length):∃x,(jM G N r)[i]? =some x:=by rw[HP] at h;exact⟨_,aK h⟩
def idx_lt {o:List Nat} {x:Nat} (h:x∈o):o.idxOf x<o.length:=List.idxOf_lt_length_of_mem h
def oy.EH {z B:Type} {R:z->B->Prop} {g:z->B}:∀{l:List z},(∀p∈l,R p (g p))->oy R l (l.map g)
 |[],_=>trivial
 |p::l,h=>⟨h p ah,oy.EH λq D=>h q (by simp[D])⟩
variable {T F:Nat} (hG:GO T F G N) (hr:r<N)
include hG hr
theorem S6:Bd (iW (lK G N r)) ((lK G N r).aj.length):=by intro i B p l;obtain⟨x,z⟩:=HL B;rw[BM z] at l;obtain⟨q,D,rfl⟩:=aC.1 l;rw[HP];exact idx_lt (zX hG.bd hr (aH z) D)
theorem can_go:GO T F (mI (lK G N r)) ((lK G N r).aj.length):=by
 have l:∀{i x:Nat},(jM G N r)[i]? =some x->x<N:=λh=>(uo hG.bd hr).lt _ (aH h)
 refine⟨S6 hG hr,λi D=> ?_,λi D p B=> ?_,λi D=> ?_⟩<;>obtain⟨x,z⟩:=HL D
 .show y7 (iW _ i);rw[BM z];exact(hG.x8 x (l z)).map λy=>(jM G N r).idxOf y
 .have B:p∈iW (lK G N r) i:=B;rw[BM z] at B;obtain⟨q,I,rfl⟩:=aC.1 B;exact hG.ft x (l z) q I
 .show 0<=nw _ i/\nw _ i<_;rw[Mf z];exact hG.tp x (l z)
theorem S8:0<(lK G N r).aj.length:=by have:=aH (zW hG.bd hr);rw[HP];exact xH this
theorem can_can:lK (mI (lK G N r)) ((lK G N r).aj.length) 0=lK G N r:=by
 have nd:=(uo hG.bd hr).nd;refine(Vp (R:=λa b=>(jM G N r)[b]? =some a) hG.bd (S6 hG hr) hr (S8 hG hr) (λ{a b z B} h l=> ?_) (λa b h=> ?_) (λa b h=> ?_) (zW hG.bd hr)).symm
 .constructor
  .intro e;subst e;rw[<-uR nd h,<-uR nd l]
  .intro e;subst e;rw[h] at l;exact c9 l
 .show oy _ _ (iW _ b);rw[BM h];refine oy.EH λp q=>⟨rfl,?_⟩
  exact wH (zX hG.bd hr (aH h) q)
 .exact(Mf h).symm
end
structure Can (T F:Nat) (f:FSt):Prop where
 ne:0<f.aj.length
 go:GO T F (mI f) (f.aj.length)
 eq:f=lK (mI f) (f.aj.length) 0
def S7 {T F:Nat} {G:Gr} {N r:Nat} (hG:GO T F G N) (hr:r<N):Can T F (lK G N r):=
 ⟨S8 hG hr,can_go hG hr,(can_can hG hr).symm⟩
def nd_all {N:Nat} {o:List Nat} (D:o.Nodup) (B:∀x∈o,x<N) (I:N<=o.length) {i:Nat} (z:i<N):i∈o:=by
 apply dm;intro h;have q:(i::o).Nodup:=fu.2 ⟨h,D⟩;have:=vI q (N:=N) λx l=>by
  rcases aF.1 l with rfl|l
  .exact z
  .exact B x l
 simp at this;omega
def asc_mem {T F:Nat} {f:FSt} (h:GO T F (mI f) (f.aj.length)) (i:Nat):y7 (iW f i):=by
 by_cases l:i<f.aj.length
 .exact h.x8 i l
 .rw[NQ af];exact y7.nil
namespace Can
variable {T F:Nat} {f:FSt} (h:Can T F f)
include h
theorem bd:Bd (iW f) (f.aj.length):=h.go.bd
theorem x8 (i:Nat):y7 (iW f i):=asc_mem h.go i
theorem met:Met (f.aj.length) (jM (mI f) (f.aj.length) 0):=uo h.go.bd h.ne
theorem olen:(jM (mI f) (f.aj.length) 0).length=f.aj.length:=by
 have:f.aj.length=(lK (mI f) f.aj.length 0).aj.length:=aJ (λg:FSt=>g.aj.length) h.eq
 rw[HP] at this;exact this.symm
theorem omem {i:Nat} (l:i<f.aj.length):i∈jM (mI f) (f.aj.length) 0:=nd_all h.met.nd h.met.lt (by rw[h.olen];exact aT _) l
theorem Jh {i:Nat} (l:i<f.aj.length):rR (iW f) 0 i:=(GR h.go.bd h.ne).1 (h.omem l)
theorem RL {i:Nat} (l:rR (iW f) 0 i):i<f.aj.length:=l.lt h.bd h.ne
theorem oat {i:Nat} (D:rR (iW f) 0 i):(jM (mI f) (f.aj.length) 0)[i]? =some i:=by induction D with
 |root=>exact zW h.go.bd h.ne
 | @step n p K q L=>
  have l:=q;have e:iW f n=iW (lK (mI f) (f.aj.length) 0) n:=aJ (λg=>iW g n) h.eq;rw[BM L] at e;have z:(p.1,(jM (mI f) (f.aj.length) 0).idxOf p.2)∈iW f n:=by rw[e];exact aC.2 ⟨p,q,rfl⟩
  have B:=(h.x8 n).Kt (a:=p.2) l z;have I:p.2∈jM (mI f) (f.aj.length) 0:=h.omem (h.bd n (h.RL K) p l);have:=wH I;rw[<-B] at this;exact this
theorem ord:jM (mI f) (f.aj.length) 0=List.range (f.aj.length):=by
 apply ki;intro i;by_cases l:i<f.aj.length
 .rw[h.oat (h.Jh l),oE l]
 .rw[fA (by rw[h.olen];omega),fA (by simpa using l)]
theorem nn {x:Node} (l:x∈f.aj) {a:bX} (q:a∈x.bC):0<=a.To:=by rw[h.eq] at l;obtain⟨n,_,rfl⟩:=aC.1 l;obtain⟨p,_,rfl⟩:=aC.1 q;exact xI _
end Can
def Pre (sc:Nat->List (Int×Nat)) (o:List Nat):Prop:=∀i x,o[i]? =some x->0<i->∃j,j<i/\∃y,o[j]? =some y/\∃p∈sc y,p.2=x
def Pre.snoc {sc:Nat->List (Int×Nat)} {o:List Nat} {n:Nat} (h:Pre sc o) (K:o=[]\/∃y∈o,∃p∈sc y,p.2=n):Pre sc (o++[n]):=by
 intro i x l D;by_cases I:i<o.length
 .rw[dA I] at l;obtain⟨j,q,y,B,z⟩:=h i x l D;exact⟨j,q,y,by rw[dA af];exact B,z⟩
 .rw[fW af] at l
  have:i-o.length=0:=by cases e:i-o.length with
   |zero=>rfl
   |succ k=>rw[e] at l;simp at l
  rw[this] at l;simp at l;subst l;rcases K with rfl|⟨y,B,z⟩
  .simp at this;omega
  .obtain⟨j,q⟩:=gC.1 B;have:=(bD.1 q).1;exact⟨j,by omega,y,by rw[dA this];exact q,z⟩
def Sf {sc:Nat->List (Int×Nat)}:∀(k n:Nat) (o:List Nat),Pre sc o->(o=[]\/∃y∈o,∃p∈sc y,p.2=n)->Pre sc (nV sc k n o)
 |0,_,o,h,_=>h
 |k+1,n,o,h,D=>by
  rw[nV];split
  .exact h
  .have key:∀(l:List (Int×Nat)) (o:List Nat),Pre sc o->n∈o->(∀p∈l,p∈sc n)->Pre sc (rN sc k l o):=by
    intro l;induction l with
    |nil=>intro o h _ _;exact h
    |cons p l L=>intro o h z B;exact L _ (Sf k p.2 o h (.inr ⟨n,z,p,B p ah,rfl⟩)) ((Ek k p.2 o).subset z) λq K=>B q (by simp[K])
   exact key _ _ (h.snoc D) ah λp I=>I
def Can.pred {T F:Nat} {f:FSt} (h:Can T F f) {i:Nat} (z:0<i) (B:i<f.aj.length):∃j,j<i/\∃p∈iW f j,p.2=i:=by have l:Pre (iW f) (jM (mI f) (f.aj.length) 0):=Sf _ _ _ (λi x K=>by simp at K) (.inl rfl);rw[h.ord] at l;obtain⟨j,D,y,q,I⟩:=l i i (oE B) z;rw[oE af] at q;cases q;exact⟨j,D,I⟩
structure TO (T:Nat) (sb:Int->Int->Prop):Prop where
 rl:∀{a b},sb a b->0<=a/\a<(T:Int)
 rr:∀{a b},sb a b->0<=b/\b<(T:Int)
 refl:∀{a},0<=a->a<(T:Int)->sb a a
 trans:∀{a b c},sb a b->sb b c->sb a c
 anti:∀{a b},sb a b->sb b a->a=b
 top:∀{a},0<=a->a<(T:Int)->sb 0 a
def CC (sb:Int->Int->Prop) (G:Gr) (r:Nat) (H:Gr) (s:Nat) (m:Nat->Nat):Prop:=
 m r=s/\∀i,rR G.sc r i->sb (G.ty i) (H.ty (m i))/\∀p∈G.sc i,(p.1,m p.2)∈H.sc (m i)
def CC.Jh {sb:Int->Int->Prop} {G H:Gr} {r s:Nat} {m:Nat->Nat} (h:CC sb G r H s m) {i:Nat} (l:rR G.sc r i):rR H.sc s (m i):=by induction l with
 |root=>rw[h.1];exact .root
 |step q z B=>exact B.step ((h.2 _ q).2 _ z)
def CC.comp {s1 s2 s3:Int->Int->Prop} (D:∀{a b c},s1 a b->s2 b c->s3 a c) {G H K:Gr} {r s t:Nat} {m z:Nat->Nat} (h:CC s1 G r H s m) (q:CC s2 H s K t z):CC s3 G r K t (λi=>z (m i)):=
 ⟨by show z (m r)=t;rw[h.1,q.1],λi l=>⟨D (h.2 i l).1 (q.2 _ (h.Jh l)).1,λp B=>(q.2 _ (h.Jh l)).2 _ ((h.2 i l).2 p B)⟩⟩
def Le (sb:Int->Int->Prop) (f g:FSt):Prop:=∃m,CC sb (mI f) 0 (mI g) 0 m
def CC.idG {sb:Int->Int->Prop} {G:Gr} {r:Nat} (h:∀i,rR G.sc r i->sb (G.ty i) (G.ty i)):CC sb G r G r id:=⟨rfl,λi l=>⟨h i l,λp q=>q⟩⟩
section
variable {T F:Nat} {sb:Int->Int->Prop} (hT:TO T sb)
include hT
theorem Le.refl {f:FSt} (h:Can T F f):Le sb f f:=⟨id,CC.idG λi l=>hT.refl (h.go.tp i (h.RL l)).1 (h.go.tp i (h.RL l)).2⟩
theorem Le.trans {f g k:FSt} (h:Le sb f g) (l:Le sb g k):Le sb f k:=by obtain⟨m,h⟩:=h;obtain⟨q,l⟩:=l;exact⟨_,CC.comp (s1:=sb) (s2:=sb) (s3:=sb) (λh l=>hT.trans h l) h l⟩
theorem Le.anti {f g:FSt} (I:Can T F f) (K:Can T F g) (h:Le sb f g) (z:Le sb g f):f=g:=by
 obtain⟨m,h⟩:=h;obtain⟨V,z⟩:=z;have e1:∀i,rR (iW f) 0 i->V (m i)=i:=by have L:=CC.comp (s1:=sb) (s2:=sb) (s3:=sb) (λh z=>hT.trans h z) h z;intro i R;induction R with
  |root=>exact L.1
  | @step n p S D U=>have l:=(L.2 n S).2 p D;simp only[U] at l;exact((I.x8 n).Kt (a:=p.2) D l).symm
 have e2:∀i,rR (iW g) 0 i->m (V i)=i:=by have L:=CC.comp (s1:=sb) (s2:=sb) (s3:=sb) (λh z=>hT.trans h z) z h;intro i R;induction R with
  |root=>exact L.1
  | @step n p S D U=>have l:=(L.2 n S).2 p D;simp only[U] at l;exact((K.x8 n).Kt (a:=p.2) D l).symm
 rw[I.eq,K.eq];refine Vp (R:=λa b=>rR (iW f) 0 a/\m a=b) I.bd K.bd I.ne K.ne ?_ ?_ ?_ ⟨.root,h.1⟩
 .rintro a b a' b' ⟨B,rfl⟩ ⟨Q,rfl⟩;constructor
  .intro e;rw[e]
  .intro e;rw[<-e1 a B,<-e1 a' Q,e]
 .rintro a b ⟨B,rfl⟩;have hm:=h.Jh B;have e:iW g (m a)=(iW f a).map λp=>(p.1,m p.2):=by
   refine(y7.ext ((I.x8 a).map m) (K.x8 (m a)) λq=> ?_).symm;constructor
   .intro O;obtain⟨p,D,rfl⟩:=aC.1 O;exact(h.2 a B).2 p D
   .intro O;have l:=(z.2 _ hm).2 q O;rw[e1 a B] at l;refine aC.2 ⟨_,l,?_⟩;show(q.1,m (V q.2))=q;rw[e2 q.2 (hm.step O)]
  show oy _ (iW f a) (iW g (m a));rw[e];exact oy.EH λp D=>⟨rfl,B.step D,rfl⟩
 .rintro a b ⟨B,rfl⟩;have l:=(z.2 _ (h.Jh B)).1;rw[e1 a B] at l;exact hT.anti (h.2 a B).1 l
end
section
variable {T F:Nat} {G:Gr} {N r:Nat} (hG:GO T F G N) (hr:r<N)
include hG hr
theorem VL {sb:Int->Int->Prop} (B:∀{a},0<=a->a<(T:Int)->sb a a):CC sb G r (mI (lK G N r)) 0 (λi=>(jM G N r).idxOf i):=by
 refine⟨uR (uo hG.bd hr).nd (zW hG.bd hr),λi l=> ?_⟩;have q:=(GR hG.bd hr).2 l;have:=hG.tp i (l.lt hG.bd hr);refine⟨?_,λp z=> ?_⟩
 .show sb _ (nw _ ((jM G N r).idxOf i));rw[Mf (wH q)];exact B this.1 this.2
 .show _∈iW _ ((jM G N r).idxOf i);rw[BM (wH q)];exact aC.2 ⟨p,z,rfl⟩
theorem Vo {sb:Int->Int->Prop} (Q:∀{a},0<=a->a<(T:Int)->sb a a):CC sb (mI (lK G N r)) 0 G r (λi=>(jM G N r).getD i r):=by
 have K:=zW hG.bd hr;refine⟨by show(jM G N r).getD 0 r=r;rw[aX,K];rfl,λi O=> ?_⟩;obtain⟨x,z⟩:=HL (O.lt (S6 hG hr) (S8 hG hr));have D:=aH z;have:=hG.tp x ((uo hG.bd hr).lt x D);have B:(jM G N r).getD i r=x:=by rw[aX,z];rfl
 refine⟨?_,λp l=> ?_⟩
 .show sb (nw _ _) (G.ty ((jM G N r).getD i r));rw[Mf z,B];exact Q this.1 this.2
 .have l:p∈iW (lK G N r) i:=l;rw[BM z] at l;obtain⟨q,I,rfl⟩:=aC.1 l;have L:=wH (zX hG.bd hr D I);show(q.1,(jM G N r).getD _ r)∈G.sc ((jM G N r).getD i r);rw[B,aX,L];exact I
end
