/- READING. -/
import Derived.Test.YthppjmoncapdfaaGreatDoorAmI
import Derived.Deep.Slices
import Derived.OpenShut
import Derived.Carry
import Derived.ProofKit
import Derived.Test.YthppjmoncapdfaaGreatDoorClT
import Derived.Test.YthppjmoncapdfaaGreatDoorRows
set_option linter.all false
namespace Go.AM
open Go.RowKit Go.ChangeShapes Go.WideShapes Go.ChangeAt
mutual
def AV.bulk:AV->Nat
 | .str s=>s.length+1
 | .dK _ xs=>y5 xs+1
 | .agg cs=>mI cs
 | .bool _=>1
 | .int _ _=>1
 | .fn _ _=>1
 | .lR cs=>mI cs
 | .ref _=>1
 | .mp _ _=>1
 | .self _=>1
 | .DQ=>1
 | .qm=>1
 | .hole=>1
def mI:List AV->Nat
 |[]=>0
 |a::l=>AV.bulk a+mI l
def y5:List (List AV)->Nat
 |[]=>0
 |c::l=>mI c+y5 l
end
mutual
def AV.wf:AV->Prop
 | .str s=>s.length<=maxLen
 | .dK _ xs=>wfR xs
 | .agg cs=>Vi cs
 | .bool _=>True
 | .int k n=>(Lit.int k n).wf=true
 | .fn _ _=>True
 | .lR cs=>Vi cs
 | .ref _=>True
 | .mp _ _=>True
 | .self _=>True
 | .DQ=>True
 | .qm=>True
 | .hole=>True
def Vi:List AV->Prop
 |[]=>True
 |a::l=>AV.wf a/\Vi l
def wfR:List (List AV)->Prop
 |[]=>True
 |c::l=>Vi c/\wfR l
end
def Mh (a b:List AV):mI (a++b)=mI a+mI b:=by induction a with
 |nil=>simp[mI]
 |cons x a l=>simp only[eU,mI,l];omega
def Vj {a b:List AV}:Vi (a++b)↔Vi a/\Vi b:=by induction a with
 |nil=>simp[Vi]
 |cons x a l=>simp only[eU,Vi,l,and_assoc]
def wfR_all {l:List (List AV)} (h:∀c∈l,Vi c):wfR l:=by induction l with
 |nil=>trivial
 |cons c l z=>exact⟨h c ah,z λx q=>h x (by simp[q])⟩
def XC {l:List (List AV)} {c:List AV} (q:c∈l):mI c<=y5 l:=by induction l with
 |nil=>cases q
 |cons x l z=>
  simp only[y5];rcases aG.1 q with rfl|q
  .omega
  .have:=z q;omega
structure uH {H:Type} (bk:DataW H->Nat) (S4:List (DataW H)->Nat):Prop where
 str:∀l,bk (.lit (.string l))=l.length+1
 lit:∀l,1<=bk (.lit l)
 nil:1<=bk .nil
 slice:∀e s,bk (.slice e s)=S4 e+S4 s+1
 agg:∀p,bk (.agg p)=S4 p+1
 nilA:S4 []=0
 ZT:∀d r,S4 (d::r)=bk d+S4 r
def UA (w:World):Mu:=λb j=>ED w b j
def pub_muW (w:World):HA (UA w) w:=λ_ _ _ h=>h
section
variable {H:Type} {enc:TypeId×Value->H} {P:Program} {w:World} {bk:DataW H->Nat} {S4:List (DataW H)->Nat}
def CD (enc:TypeId×Value->H) (P:Program) (w:World) (bk:DataW H->Nat) (n:Nat) (t:TypeId) (Q:List AV->Prop):Prop:=
 ∀q d z,DataW.trod enc P w 0 (λ_=>true) true n t q=some (d,z)->∃l,Q l/\j8 (UA w) l q/\mI l<=bk d/\Vi l
def CD.zero {t:TypeId} {Q:List AV->Prop}:CD enc P w bk 0 t Q:=λl d q h=>by simp[DataW.trod] at h
def CD.mono {n:Nat} {t:TypeId} {Q l:List AV->Prop} (h:CD enc P w bk n t Q) (I:∀a,Q a->l a):CD enc P w bk n t l:=λq d K D=>let⟨a,z,B⟩:=h q d K D;⟨a,I a z,B⟩
def UT (z:uH bk S4) {n:Nat} {t:TypeId} {k:IntKind} (B:P.underlying t=some (.int k)):CD enc P w bk n t λl=>∃x,l=cg k x:=by
 intro I d K h;obtain⟨x,rfl,q,D⟩:=DataW.trod_int B h;simp only[bB] at q;obtain⟨rfl,rfl⟩:=q;refine⟨cg k x,⟨x,rfl⟩,⟨bN (by simp[rep]) dg,by simp[Value.oneCell']⟩,?_,?_⟩
 .simp only[cg,mI,AV.bulk];exact z.lit _
 .exact⟨D,trivial⟩
def NP (z:uH bk S4) {n:Nat} {t:TypeId} (B:P.underlying t=some .string):CD enc P w bk n t λl=>∃x,l=jv x:=by
 intro D d K h;obtain⟨s,rfl,q,I⟩:=DataW.trod_string B h;simp only[bB] at q;obtain⟨rfl,rfl⟩:=q;refine⟨jv s.data.toList,⟨_,rfl⟩,⟨bN (by simp[rep]) dg,by simp[Value.oneCell']⟩,?_,?_⟩
 .simp only[jv,mI,AV.bulk,z.str];omega
 .refine⟨?_,trivial⟩
  have:s.data.toList.length=s.size:=by rw[zC];rfl
  simp only[AV.wf];omega
def KT {D:Mu} {q b:Nat}:∀{xs:List (List AV)} {l:Nat},(∀i x,xs[i]? =some x->∃z,j8 D x z/\z.length=q/\∀j u,z[j]? =some u->D b (l+i *q+j)=some u)->kJ D q b xs l:=by intro xs;induction xs with
 |nil=>intro l _;simp[kJ]
 |cons x xs Q=>intro l h;rw[kJ];obtain⟨z,I,K,L⟩:=h 0 x rfl;refine⟨⟨z,I.1,I.2,K,λj u B=>by have:=L j u B;simpa using this⟩,Q λi y O=> ?_⟩;obtain⟨V,R,S,U⟩:=h (i+1) y (by simpa using O);refine⟨V,R,S,λj u B=> ?_⟩;have:=U j u B;rwa[show l+(i+1) *q+j=l+q+i *q+j from by rw[kj];omega] at this
def ZD (z:uH bk S4):∀(xs:List (List AV)) (l:List (DataW H)),xs.length=l.length->(∀(i:Nat) (x:List AV) (d:DataW H),xs[i]? =some x->l[i]? =some d->mI x<=bk d)->y5 xs<=S4 l:=by intro xs;induction xs with
 |nil=>intro l _ _;simp[y5]
 |cons x xs I=>intro l q h;cases l with
  |nil=>simp at q
  |cons d l=>
   rw[z.ZT];have K:=h 0 x d rfl rfl;have:=I l (by simpa using q) λi y e D B=>h (i+1) y e (by simpa using D) (by simpa using B)
   simp only[y5];omega
def Jr (hB:uH bk S4) {n:Nat} {t e:TypeId} {sz:Nat} (ht:P.underlying t=some (.slice e)) (hc:P.cellsOf e=sz) (hpos:0<sz) {Q:List AV->Prop} (he:CD enc P w bk n e Q):
  CD enc P w bk (n+1) t λVv=>∃xs,Vv=[.dK sz xs]/\∀x∈xs,Q x:=by
 intro cs d ps h;rcases DataW.trod_slice ht h with⟨rfl,l⟩|⟨a,len,cap,elems,rest,n',hn,rfl,l,hb,hl,hm,hlen,hel,_,_⟩
 .simp only[bB] at l;obtain⟨rfl,rfl⟩:=l;refine⟨[.dK sz []],⟨[],rfl,ah⟩,⟨bN ?_ dg,by simp[Value.oneCell']⟩,?_,?_⟩
  .rw[rep];exact⟨none,0,rfl,aU _,by simp[maxLen], .inl rfl⟩
  .simp only[mI,AV.bulk,y5];exact hB.nil
  .simp[Vi,AV.wf,wfR]
 .obtain rfl:n=n':=by omega
  simp only[bB] at l;obtain⟨rfl,rfl⟩:=l;have each:∀i,i<len->∃U:List AV,Q U/\∃z,w.cells? 0 (a.add (i *sz)) sz=some z/\j8 (UA w) U z/\(∀x,elems[i]? =some x->mI U<=bk x.1)/\Vi U:=by
   intro i D;have V:=hel i D;rw[hc] at V;obtain⟨x,l⟩:∃x,elems[i]? =some x:=⟨elems[i]'(by omega),aM af⟩
   rw[l] at V;obtain⟨z,B,O⟩:=dM.1 V;obtain⟨U,k1,k2,k3,k4⟩:=he z x.1 x.2 O;exact⟨U,k1,z,B,k2,λy hy=>by rw[l] at hy;injection hy with hy;subst hy;exact k3,k4⟩
  obtain⟨f,hf⟩:=Deep.choose_lt each;have K:∀i x,((List.range len).map f)[i]? =some x->i<len/\x=f i:=by intro i x l;simp only[dF,bZ] at l;obtain⟨j,hj,rfl⟩:=l;obtain⟨V,B⟩:=bF.1 hj;simp at V B;subst B;exact⟨V,rfl⟩
  have L:∀x∈(List.range len).map f,∃i,i<len/\x=f i:=by intro x l;simp only[aD,eM] at l;obtain⟨i,D,rfl⟩:=l;exact⟨i,D,rfl⟩
  refine⟨[.dK sz ((List.range len).map f)],⟨_,rfl,λx l=> ?_⟩,⟨bN ?_ dg,by simp[Value.oneCell']⟩,?_,?_⟩
  .obtain⟨i,D,rfl⟩:=L x l;exact(hf i D).1
  .rw[rep];refine⟨some a,cap,by simp,by simpa using hl,hm,?_⟩;cases len with
   |zero=>exact .inl ah
   |succ len=>
    right;have I:a.spot=none:=by
     obtain⟨_,z,B,_⟩:=hf 0 af;simp only[World.cells?,cZ,fS] at B;have O:=mapM_some_get B 0 0 (by simp[hpos]);have h4:z[0]? ≠none:=by have:=xM B;simp at this;intro R;rw[FA] at R;omega
     rw[<-O] at h4;simp only[Addr.add,zH,fS] at h4;cases hsp:a.spot with
     |none=>rfl
     |some q=>exfalso;apply h4;simp only[World.cell?,hsp];split<;>simp
    obtain⟨b,S,sp⟩:=a;simp only at I;subst I;refine⟨b,S,rfl,KT λi x l=> ?_⟩;obtain⟨D,rfl⟩:=K i x l;obtain⟨_,z,B,k2,_⟩:=hf i D;simp only[World.cells?,cZ,fS] at B;refine⟨z,k2,by simpa using xM B,λj u hu=> ?_⟩;have hj:j<sz:=by have:=xM B;simp at this;have:=(bF.1 hu).1;omega
    have O:=mapM_some_get B j j (by simp[hj]);rw[hu,Deep.add_add] at O;unfold UA;have e:(⟨b,S,none⟩:Addr).add (i *sz+j)=⟨b,S+i *sz+j,none⟩:=by
     unfold Addr.add;split
     .rename_i h0;rw[kZ,h0];rfl
     .simp[kZ]
    rw[e] at O;exact tu O (k2.2 u (aI hu))
  .simp only[mI,AV.bulk,hB.slice];have:=ZD hB ((List.range len).map f) (elems.map (·.1)) (by simp[hlen]) λi x d l hd=>by
    obtain⟨D,rfl⟩:=K i x l;simp only[dF,bZ] at hd;obtain⟨y,hy,rfl⟩:=hd;obtain⟨_,_,_,_,k,_⟩:=hf i D;exact k y hy
   omega
  .refine⟨wfR_all λx l=> ?_,trivial⟩;obtain⟨i,D,rfl⟩:=L x l;obtain⟨_,_,_,_,_,k⟩:=hf i D;exact k
def Cat:List (List AV->Prop)->List AV->Prop
 |[],l=>l=[]
 |Q::Qs,l=>∃a b,l=a++b/\Q a/\Cat Qs b
def Nw (P:Program):Nat->List Field->Bool
 |_,[]=>true
 |q,f::l=>Nat.beq f.offset q&&Nw P (q+P.cellsOf f.type) l
def U5 (P:Program):List Field->Nat
 |[]=>0
 |f::l=>P.cellsOf f.type+U5 P l
def Y5 (enc:TypeId×Value->H) (P:Program) (w:World) (bk:DataW H->Nat) (n:Nat):List Field->List (List AV->Prop)->Prop
 |[],[]=>True
 |f::l,Q::Qs=>CD enc P w bk n f.type Q/\Y5 enc P w bk n l Qs
 |_,_=>False
def YD (hB:uH bk S4) {n:Nat} {I:List Value}:∀(z:List Field) (Qs:List (List AV->Prop)) (xs:List (DataW H×List MemPlace)) (l:Nat),Y5 enc P w bk n z Qs->Nw P l z=true->xs.length=z.length->l+U5 P z<=I.length->
  (∀(i:Nat) (f:Field),z[i]? =some f->DataW.trod enc P w 0 (λ_=>true) true n f.type ((I.drop f.offset).take (P.cellsOf f.type))=xs[i]?)->
  ∃q,Cat Qs q/\j8 (UA w) q ((I.drop l).take (U5 P z))/\mI q<=S4 (xs.map (·.1))/\Vi q:=by
 intro z;induction z with
 |nil=>intro Qs xs l B _ K _ _;cases Qs with
  |nil=>exact⟨[],rfl,⟨by simp[U5,cn],by simp[U5]⟩,by simp[mI],trivial⟩
  |cons Q Qs=>exact B.elim
 |cons f z ih=>intro Qs xs l B O K L V;cases Qs with
  |nil=>exact B.elim
  |cons Q Qs=>cases xs with
   |nil=>simp at K
   |cons x xs=>
    simp only[Nw,aJ] at O;have D:=beq_iff.1 O.1;simp only[U5] at L⊢;have U:=V 0 f rfl;rw[D] at U;obtain⟨R,q0,r0,b0,w0⟩:=B.1 _ x.1 x.2 U;obtain⟨S,q1,r1,b1,w1⟩:=ih Qs xs (l+P.cellsOf f.type) B.2 O.2 (by simpa using K) af λi g hg=>V (i+1) g (by simpa using hg)
    refine⟨R++S,⟨R,S,rfl,q0,q1⟩,?_,?_,Vj.2 ⟨w0,w1⟩⟩
    .rw[List.take_add,qT];exact r0.append r1
    .rw[Mh,aS,hB.ZT];omega
def xg (I:uH bk S4) {n:Nat} {t:TypeId} {l:Array Field} {Qs:List (List AV->Prop)} (U:P.underlying t=some (.struct l)) (R:Nw P 0 l.toList=true) (S:U5 P l.toList=P.cellsOf t)
  (L:Y5 enc P w bk n l.toList Qs):CD enc P w bk (n+1) t (Cat Qs):=by
 intro cs d ps h;obtain⟨xs,V,hn,K,Q,D,z⟩:=DataW.trod_struct U h;obtain rfl:n=V:=by omega
 simp only[bB] at K;obtain⟨rfl,rfl⟩:=K;obtain⟨B,q,r,b,wf⟩:=YD I l.toList Qs xs 0 L R (by simpa using D) af λi f O=>z i f (by simpa using O)
 refine⟨B,q,?_,by rw[I.agg];omega,wf⟩;rw[S,<-Q] at r;simpa using r
def Dd {t:TypeId} {I:Array Field} {v:Value} {d:DataW H} {S:List MemPlace} {Q:List AV->Prop} {Jq:Reach} {z:Nat} (R:P.underlying t=some (.struct I)) (B:Value.okWide P w Jq z t v)
  (L:DataW.Trod enc P w 0 (λ_=>true) true t v d S) (K:∀n,CD enc P w bk n t Q):∃l,Q l/\rep (UA w) (.agg l) v/\mI l<=bk d/\Vi l:=by
 obtain⟨D,rfl,_⟩:=WideShapes.okWide_struct R B;obtain⟨n,O⟩:=L;obtain⟨l,q,r,b,wf⟩:=K n _ _ _ O;refine⟨l,q,?_,b,wf⟩;rw[rep];exact⟨D.toList,by simp,by simpa[Value.cells] using r.1,by simpa[Value.cells] using r.2⟩
def Vs {t:TypeId} {v:Value} {d:DataW H} {R:List MemPlace} {Q:List AV->Prop} (O:v.cells= #[v]) (K:DataW.Trod enc P w 0 (λ_=>true) true t v d R) (I:∀n,CD enc P w bk n t Q):
  ∃a,Q [a]/\rep (UA w) a v/\a.bulk<=bk d/\a.wf:=by
 obtain⟨n,L⟩:=K;obtain⟨z,q,r,b,wf⟩:=I n _ _ _ L;rw[O] at r;have B:=r.length;cases z with
 |nil=>simp at B
 |cons a l=>cases l with
  |nil=>refine⟨a,q,?_,by simpa[mI] using b,wf.1⟩;have:=r.1;rw[cn] at this;obtain⟨u,S,e,D,_⟩:=this;simp at e;rw[e.1];exact D
  |cons b l=>simp at B
end
def wV {P:Program} {H:Nat->Hint} {eX:dX} {q:Qp} {B:Mu} (L:Cm P=true) (D:∀f fn c,P.funcs[f]? =some fn->fn.body=some c->mE q B P (H f) fn.ntmps c) (z:fQ q B P eX) {f:Nat} {Vv:List AV} {us:List Value} {W:World} (hB:B.le (UA W)) (I:cn (UA W) Vv us)
  (K:run P H eX f (Vv.map .pv) []=some (.bool true,[])):Calls P f us.toArray W λe Q=>e= .returned (.bool true)/\Below W.heap.size W Q:=by
 have hs:∀{Vv:List AV} {us:List Value},cn (UA W) Vv us->iF (UA W) (λ_=> .bool false) (Vv.map .pv) us:=by intro Vv;induction Vv with
  |nil=>intro us h;rw[cn] at h;subst h;rfl
  |cons a l ih=>intro us h;rw[cn] at h;obtain⟨u,O,rfl,V,h2⟩:=h;exact⟨u,O,rfl,V,ih h2⟩
 have:=(fQ.noY (Fb L D z f _ [] _ [] K W (UA W) (λ_=> .bool false) us hB (pub_muW W) (λid o h=>by cases h) (λi j oi oj h=>by cases h) (hs I)) λxs=>by simp[find]).2;refine this.mono ?_;rintro e Q ⟨v,μ',U,rfl,R⟩;have S:=R.pure rfl;rw[rep] at S;subst S;exact⟨rfl,Dg R⟩
def BP {L:Type} {enc:TypeId×Value->L} {P:Program} (R:laidOutB P=true) {W O:World} (Q:Below W.heap.size W O):∀{B:List TypeId} {K:List Value} {D:List (DataW L)} {z:List MemPlace},(∀t∈B,P.readableRec t=true/\t<P.types.size)->
  (∀x∈z,x.block<W.heap.size)->DataW.TrodAll enc P W 0 (λ_=>true) true B K D z->DataW.TrodAll enc P O 0 (λb=>decide (b<W.heap.size)) true B K D z
 |[],[],[],_,_,_,h=>h
 |[],[],_::_,_,_,_,h=>h.elim
 |[],_::_,_,_,_,_,h=>by cases h
 |_::_,[],_,_,_,_,h=>by cases h
 |_::_,_::_,[],_,_,_,h=>h.elim
 |t::B,v::K,d::D,z,hr,l,h=>by obtain⟨p,q,S,U,rfl⟩:=h;exact⟨p,q,Below.trod R (hr t ah).1 (hr t ah).2 S Q (λx I=>l x (by simp[I])),BP R Q (λt V=>hr t (by simp[V])) (λx I=>l x (by simp[I])) U,rfl⟩
def AI {B:Type} {enc:TypeId×Value->B} {P:Program} {W:World}:∀{z:List TypeId} {I:List Value} {l:List (DataW B)} {D:List MemPlace},DataW.TrodAll enc P W 0 (λ_=>true) true z I l D->l.length=z.length
 |[],[],[],_,_=>rfl
 |[],[],_::_,_,h=>h.elim
 |[],_::_,_,_,h=>by cases h
 |_::_,[],_,_,h=>by cases h
 |_::_,_::_,[],_,h=>h.elim
 |t::z,v::I,d::l,D,h=>by obtain⟨p,q,L,K,rfl⟩:=h;simp[AI K]
def xd {Q:Type} {enc:TypeId×Value->Q} {P:Program} {fn:Func} {s:ChangeSpec} {tb:TypeId} {W W':World} {args:Array Value} {D R:List (DataW Q)} {before:List MemPlace} {l I z:Bool}
  (hl:laidOutB P=true) (L:fn.params.toList.all (λt=>P.readableRec t&&decide (t<P.types.size))=true) (B:s.vars=[]) (O:fn.resultTypes= #[tb]) (htb:P.underlying tb=some .bool)
  (hfn:∀D:List (DataW Q),D.length=fn.params.size->s.fn Q D={ results:=[.lit (.bool true)],args:=D })
  (U:DataW.Whole enc P fn.params.toList s.vars l W args.toList D R before) (hb:Below W.heap.size W W'):
  s.post enc P fn l I z false W args (.bool true) W':=by
 have hlt:=U.lt;have V:=U;obtain⟨p,q,hA,S,rfl,_,_⟩:=U;rw[B] at S;obtain⟨rfl,rfl⟩:R=[]/\q=[]:=by cases R with
  |nil=>exact⟨rfl,S⟩
  |cons g R=>exact S.elim
 have K:=AI hA;have e:=hfn D (by rw[K,zC]);refine⟨D,[],p++[],[],p,[],V,?_,?_,?_,hb.frame _,λh=>by cases h⟩
 .rw[e7,e,O];exact trodAll_cons_mk (shut_bool htb _) trodAll_mk0
 .rw[e7,e];refine BP hl hb (λt ht=> ?_) (λx hx=>hlt x (by simp[hx])) hA;have:=cz.1 L t ht;simp only[aJ,jZ] at this;exact this
 .rw[e7,e,B];rfl
end Go.AM
set_option maxRecDepth 100000
namespace Go.Proofs.YthppjmoncapdfaaGreatDoor.cl
open Go Go.AM Go.RowKit Go.ChangeShapes Go.WideShapes Go.ChangeAt
def B2 {T:Type} {q:T->List AV}:∀{xs:List (List AV)},(∀x∈xs,∃y:T,x=q y)->∃l:List T,xs=l.map q:=by intro xs;induction xs with
 |nil=>intro _;exact⟨[],rfl⟩
 |cons x xs D=>
  intro h;obtain⟨y,rfl⟩:=h x ah;obtain⟨l,rfl⟩:=D λz B=>h z (by simp[B])
  exact⟨y::l,rfl⟩
section
variable {H:Type} {enc:TypeId×Value->H} {w:World}
def uM:uH (H:=H) Rows.uptoBulk Rows.uptoBulkAll where
 str:=λ_=>rfl
 lit:=λl=>by cases l<;>simp[Rows.uptoBulk]
 nil:=by simp[Rows.uptoBulk]
 slice:=λ_ _=>by simp[Rows.uptoBulk]
 agg:=λ_=>by simp[Rows.uptoBulk]
 nilA:=by simp[Rows.uptoBulkAll]
 ZT:=λ_ _=>by simp[Rows.uptoBulkAll]
def rd54 (n:Nat):CD enc P w Rows.uptoBulk n 54 λl=>∃x:bY,l=x.enc:=by cases n with
 |zero=>exact CD.zero
 |succ n=>
  refine(xg uM (Qs:=[λa=>∃x,a=cg .i64 x,λa=>∃x,a=cg .i64 x]) Tryz.underlying54 (by kernel_rfl) (by kernel_rfl) ?_).mono ?_
  .exact⟨UT uM Tryz.underlying3,UT uM Tryz.underlying3,trivial⟩
  .rintro a ⟨_,_,rfl,⟨q,rfl⟩,_,_,rfl,⟨x1,rfl⟩,rfl⟩;exact⟨⟨q,x1⟩,rfl⟩
def rd50 (n:Nat):CD enc P w Rows.uptoBulk n 50 λq=>∃l:List bY,q=[.dK 2 (l.map bY.enc)]:=by cases n with
 |zero=>exact CD.zero
 |succ n=>refine(Jr uM (sz:=2) Tryz.underlying50 (by kernel_rfl) (by decide) (rd54 n)).mono ?_;rintro a ⟨xs,rfl,z⟩;obtain⟨l,rfl⟩:=B2 z;exact⟨l,rfl⟩
def rd52 (n:Nat):CD enc P w Rows.uptoBulk n 52 λq=>∃x:Node,q=x.enc:=by cases n with
 |zero=>exact CD.zero
 |succ n=>
  refine(xg uM (Qs:=[λa=>∃x,a=cg .i64 x,λa=>∃l:List bY,a=[.dK 2 (l.map bY.enc)]]) Tryz.underlying52 (by kernel_rfl) (by kernel_rfl) ?_).mono ?_
  .exact⟨UT uM Tryz.underlying3,rd50 n,trivial⟩
  .rintro a ⟨_,_,rfl,⟨z,rfl⟩,_,_,rfl,⟨x1,rfl⟩,rfl⟩;exact⟨⟨z,x1⟩,rfl⟩
def rd22 (n:Nat):CD enc P w Rows.uptoBulk n 22 λq=>∃l:List Node,q=[.dK 2 (l.map Node.enc)]:=by cases n with
 |zero=>exact CD.zero
 |succ n=>refine(Jr uM (sz:=2) Tryz.underlying22 (by kernel_rfl) (by decide) (rd52 n)).mono ?_;rintro a ⟨xs,rfl,z⟩;obtain⟨l,rfl⟩:=B2 z;exact⟨l,rfl⟩
def YC (n:Nat):CD enc P w Rows.uptoBulk n 24 λq=>∃x:FSt,q=x.enc:=by cases n with
 |zero=>exact CD.zero
 |succ n=>
  refine(xg uM (Qs:=[λa=>∃l:List Node,a=[.dK 2 (l.map Node.enc)]]) Tryz.underlying24 (by kernel_rfl) (by kernel_rfl) ?_).mono ?_
  .exact⟨rd22 n,trivial⟩
  .rintro a ⟨_,_,rfl,⟨z,rfl⟩,rfl⟩;exact⟨⟨z⟩,rfl⟩
end
end Go.Proofs.YthppjmoncapdfaaGreatDoor.cl
namespace Go.Proofs.YthppjmoncapdfaaGreatDoor.cl.pf
open Go Go.AM
def oA {q z:Type} (R:q->z->Prop):List q->List z->Prop
 |[],[]=>True
 |a::l,b::m=>R a b/\oA R l m
 |_,_=>False
def oA.append {B D:Type} {R:B->D->Prop}:∀{l q:List B} {m z:List D},oA R l m->oA R q z->oA R (l++q) (m++z)
 |[],_,[],_,_,h=>h
 |a::l,_,b::m,_,h,k=>⟨h.1,oA.append h.2 k⟩
 |[],_,_::_,_,h,_=>h.elim
 |_::_,_,[],_,h,_=>h.elim
def oA.map_eq {z B D:Type} {R:z->B->Prop} {f:z->D} {g:B->D} (q:∀a b,R a b->f a=g b):∀{l:List z} {m:List B},oA R l m->l.map f=m.map g
 |[],[],_=>rfl
 |a::l,b::m,h=>by simp only[aS,q a b h.1,oA.map_eq q h.2]
 |[],_::_,h=>h.elim
 |_::_,[],h=>h.elim
def oA.mem_iff {R:Nat->Nat->Prop} (D:∀{a b z B},R a b->R z B->(a=z↔b=B)) {a b:Nat} (q:R a b):∀{l m:List Nat},oA R l m->(a∈l↔b∈m)
 |[],[],_=>by simp
 |x::l,y::m,h=>by rw[aG,aG,oA.mem_iff D q h.2,D q h.1]
 |[],_::_,h=>h.elim
 |_::_,[],h=>h.elim
def oA.idx {R:Nat->Nat->Prop} (D:∀{a b z B},R a b->R z B->(a=z↔b=B)) {a b:Nat} (q:R a b):∀{l m:List Nat},oA R l m->l.idxOf a=m.idxOf b
 |[],[],_=>rfl
 |x::l,y::m,h=>by
  rw[tW,tW,oA.idx D q h.2];have:=D h.1 q;by_cases e:x=a
  .simp[e,this.1 e]
  .have I:y≠b:=λh=>e (this.2 h)
   simp[iN.2 e,iN.2 I]
 |[],_::_,h=>h.elim
 |_::_,[],h=>h.elim
def vN:∀{N:Nat} {o:List Nat},o.Nodup->(∀x∈o,x<N)->o.length<=N
 |0,o,_,h=>by cases o with
  |nil=>simp
  |cons x o=>have:=h x (by simp);omega
 |N+1,o,l,h=>by
  have B:(o.filter (· !=N)).Nodup:=l.filter _;have L:=vN (N:=N) B λx q=>by rw[cH] at q;have:=h x q.1;have:=j0.1 q.2;omega
  have D:∀{o:List Nat},o.Nodup->o.length<=(o.filter (· !=N)).length+1:=by intro o;induction o with
   |nil=>simp
   |cons x o K=>
    intro l;rw[fA] at l;by_cases e:x=N
    .subst e
     have:o.filter (· !=x)=o:=CQ.2 λy I=>j0.2 λe=>l.1 (e▸I)
     simp[this]
    .have z:(x !=N)=true:=j0.2 e;have:=K l.2;simp only[fL,z,fS,bg];omega
  have:=D l;omega
structure Gr where
 sc:Nat->List (Int×Nat)
 ty:Nat->Int
def nX (sc:Nat->List (Int×Nat)):Nat->Nat->List Nat->List Nat
 |0,_,o=>o
 |k+1,n,o=>if n∈o then o else(sc n).foldl (λo p=>nX sc k p.2 o) (o++[n])
abbrev rS (sc:Nat->List (Int×Nat)) (k:Nat) (l:List (Int×Nat)) (o:List Nat):List Nat:=l.foldl (λo p=>nX sc k p.2 o) o
def Bd (sc:Nat->List (Int×Nat)) (N:Nat):Prop:=∀n,n<N->∀p∈sc n,p.2<N
structure Met (N:Nat) (o:List Nat):Prop where
 nd:o.Nodup
 lt:∀x∈o,x<N
def Met.nil {N:Nat}:Met N []:=⟨List.nodup_nil,λ_ h=>by cases h⟩
def Met.snoc {N n:Nat} {o:List Nat} (h:Met N o) (D:n<N) (q:n∉o):Met N (o++[n]):=
 ⟨by
  rw[gW];exact⟨h.nd,by simp,λa B b z=>by simp at z;subst z;exact λe=>q (e▸B)⟩,λx l=>by
  rcases bw.1 l with l|l
  .exact h.lt x l
  .simp at l;subst l;exact D⟩
section
variable {sc:Nat->List (Int×Nat)} {N:Nat}
def Ez:∀(k n:Nat) (o:List Nat),o<+:nX sc k n o
 |0,_,o=>mR _
 |k+1,n,o=>by
  simp only[nX];split
  .exact mR _
  .refine xN (xO o [n]) ?_;generalize o++[n]=q;generalize sc n=l;induction l generalizing q with
   |nil=>exact mR _
   |cons p l z=>exact xN (Ez k p.2 q) (z _)
def AK (k:Nat):∀(l:List (Int×Nat)) (o:List Nat),o<+:rS sc k l o
 |[],o=>mR _
 |p::l,o=>xN (Ez k p.2 o) (AK k l _)
def yV (B:Bd sc N):∀(k n:Nat) (o:List Nat),Met N o->n<N->Met N (nX sc k n o)
 |0,_,o,h,_=>h
 |k+1,n,o,h,I=>by
  simp only[nX];split
  .exact h
  .rename_i z;have key:∀(l:List (Int×Nat)) (o:List Nat),(∀p∈l,p.2<N)->Met N o->Met N (rS sc k l o):=by
    intro l;induction l with
    |nil=>intro o _ h;exact h
    |cons p l L=>intro o D h;exact L _ (λq K=>D q (by simp[K])) (yV B k p.2 o h (D p ah))
   exact key _ _ (B n I) (h.snoc I z)
def Hu (k n:Nat) (o:List Nat):o.length<=(nX sc k n o).length:=(Ez k n o).length_le
def Ss (z:Bd sc N):∀(k n:Nat) (o:List Nat),Met N o->n<N->N<k+o.length->nX sc (k+1) n o=nX sc k n o
 |0,n,o,h,D,B=>by have:=vN h.nd h.lt;omega
 |k+1,n,o,h,D,B=>by
  rw[nX,nX];split
  .rfl
  .rename_i I;have key:∀(l:List (Int×Nat)) (o:List Nat),(∀p∈l,p.2<N)->Met N o->N<k+o.length->rS sc (k+1) l o=rS sc k l o:=by
    intro l;induction l with
    |nil=>intro o _ _ _;rfl
    |cons p l Q=>intro o K h B;have L:=K p ah;simp only[rS,fD];rw[Ss z k p.2 o h L B];exact Q _ (λq O=>K q (by simp[O])) (yV z k p.2 o h L) (by have:=Hu (sc:=sc) k p.2 o;omega)
   exact key _ _ (z n D) (h.snoc D I) (by simp only[cS,j4];omega)
def Kt (l:Bd sc N) {k n:Nat} {o:List Nat} (h:Met N o) (q:n<N) (z:N<k+o.length):∀j,nX sc (k+j) n o=nX sc k n o
 |0=>rfl
 |j+1=>by rw[<-kZ,Ss l (k+j) n o h q af,Kt l h q z j]
def Xl (q:Bd sc N) {k j n:Nat} {o:List Nat} (h:Met N o) (z:n<N) (D:N<k+o.length) (B:N<j+o.length):nX sc k n o=nX sc j n o:=by
 rcases Nat.le_total k j with l|l
 .obtain⟨d,rfl⟩:=Nat.le.dest l;exact(Kt q h z D d).symm
 .obtain⟨d,rfl⟩:=Nat.le.dest l;exact Kt q h z B d
def yU (S:Bd sc N):∀(k n:Nat) (o:List Nat),Met N o->n<N->N<k+o.length->n∈nX sc k n o/\∀x∈nX sc k n o,x∉o->∀p∈sc x,p.2∈nX sc k n o
 |0,n,o,h,V,U=>by have:=vN h.nd h.lt;omega
 |k+1,n,o,h,V,U=>by
  rw[nX];split
  .rename_i I;exact⟨I,λx K z=>absurd K z⟩
  .rename_i I;have key:∀(l:List (Int×Nat)) (o:List Nat),(∀p∈l,p.2<N)->Met N o->N<k+o.length->(∀p∈l,p.2∈rS sc k l o)/\∀x∈rS sc k l o,x∉o->∀p∈sc x,p.2∈rS sc k l o:=by
    intro l;induction l with
    |nil=>intro o _ _ _;exact⟨λp O=>by(cases O),λx K z=>absurd K z⟩
    |cons p l ih=>
     intro o hl h U;have O:=hl p ah;obtain⟨c1,c2⟩:=yU S k p.2 o h O U;have hm:=yV S k p.2 o h O;have hlen:=Hu (sc:=sc) k p.2 o;obtain⟨Q,R⟩:=ih (nX sc k p.2 o) (λq D=>hl q (by simp[D])) hm af;have B:=AK (sc:=sc) k l (nX sc k p.2 o);refine⟨λq D=> ?_,λx K z q D=> ?_⟩
     .rcases aG.1 D with rfl|D
      .exact B.subset c1
      .exact Q q D
     .by_cases L:x∈nX sc k p.2 o
      .exact B.subset (c2 x L z q D)
      .exact R x K L q D
   obtain⟨Q,R⟩:=key (sc n) (o++[n]) (S n V) (h.snoc V I) (by simp only[cS,j4];omega);have B:=AK (sc:=sc) k (sc n) (o++[n]);refine⟨B.subset ah,λx K z q D=> ?_⟩;by_cases e:x=n
   .subst e;exact Q q D
   .exact R x K (by simp[z,e]) q D
inductive rX (sc:Nat->List (Int×Nat)) (r:Nat):Nat->Prop where
 |root:rX sc r r
 |step {n:Nat} {p:Int×Nat}:rX sc r n->p∈sc n->rX sc r p.2
def Xn {r:Nat}:∀(k n:Nat) (o:List Nat),rX sc r n->∀x∈nX sc k n o,x∉o->rX sc r x
 |0,n,o,_,x,B,z=>absurd B z
 |k+1,n,o,K,x,B,z=>by
  rw[nX] at B;split at B
  .exact absurd B z
  .have key:∀(l:List (Int×Nat)) (o:List Nat),(∀p∈l,rX sc r p.2)->∀x∈rS sc k l o,x∉o->rX sc r x:=by
    intro l;induction l with
    |nil=>intro o _ x B z;exact absurd B z
    |cons p l Q=>
     intro o I x B z;by_cases D:x∈nX sc k p.2 o
     .exact Xn k p.2 o (I p ah) x D z
     .exact Q _ (λq O=>I q (by simp[O])) x B D
   by_cases e:x=n
   .subst e;exact K
   .exact key _ _ (λp L=>K.step L) x B (by simp[z,e])
end
def jQ (G:Gr) (N r:Nat):List Nat:=nX G.sc (N+1) r []
def lM (G:Gr) (N r:Nat):FSt:=⟨(jQ G N r).map λn=>⟨G.ty n,(G.sc n).map λp=>⟨p.1,((jQ G N r).idxOf p.2:Nat)⟩⟩⟩
section
variable {G:Gr} {N r:Nat}
def uw (l:Bd G.sc N) (hr:r<N):Met N (jQ G N r):=yV l _ _ _ Met.nil hr
def ac3 (l:Bd G.sc N) (hr:r<N):r∈jQ G N r:=(yU l (N+1) r [] Met.nil hr ah).1
def Ag (l:Bd G.sc N) (hr:r<N) {x:Nat} (z:x∈jQ G N r) {p:Int×Nat} (q:p∈G.sc x):p.2∈jQ G N r:=(yU l (N+1) r [] Met.nil hr ah).2 x z ah p q
def G5 (l:Bd G.sc N) (hr:r<N) {x:Nat}:x∈jQ G N r↔rX G.sc r x:=
 ⟨λh=>Xn _ _ _ .root x h ah,λh=>by induction h with
  |root=>exact ac3 l hr
  |step _ q z=>exact Ag l hr z q⟩
def Af (q:Bd G.sc N) (hr:r<N):(jQ G N r)[0]? =some r:=by unfold jQ;rw[nX];simp only[eL,eC,dh];obtain⟨t,l⟩:=AK (sc:=G.sc) N (G.sc r) [r];show(rS G.sc N (G.sc r) [r])[0]? =some r;rw[<-l];rfl
end
def Xm {s1 s2:Nat->List (Int×Nat)} {R:Nat->Nat->Prop} (Q:∀{a b L O},R a b->R L O->(a=L↔b=O))
  (U:∀a b,R a b->oA (λp q=>p.1=q.1/\R p.2 q.2) (s1 a) (s2 b)):∀(k a b:Nat) (z B:List Nat),R a b->oA R z B->oA R (nX s1 k a z) (nX s2 k b B)
 |0,a,b,z,B,_,D=>D
 |k+1,a,b,z,B,I,D=>by
  rw[nX,nX];have S:=oA.mem_iff Q I D;by_cases h:a∈z
  .rw[az h,az (S.1 h)];exact D
  .rw[au h,au (λV=>h (S.2 V))];have key:∀(l m:List (Int×Nat)) (z B:List Nat),oA (λp q=>p.1=q.1/\R p.2 q.2) l m->oA R z B->oA R (rS s1 k l z) (rS s2 k m B):=by
    intro l;induction l with
    |nil=>intro m z B K D;cases m with
     |nil=>exact D
     |cons q m=>exact K.elim
    |cons p l ih=>intro m z B K D;cases m with
     |nil=>exact K.elim
     |cons q m=>exact ih m _ _ K.2 (Xm Q U k p.2 q.2 z B K.1.2 D)
   exact key _ _ _ _ (U a b I) (D.append ⟨I,trivial⟩)
def VA {l z:Gr} {B D I K:Nat} (Q:Bd l.sc B) (S:Bd z.sc D) (h1:I<B) (h2:K<D) {R:Nat->Nat->Prop} (hR:∀{a b U V},R a b->R U V->(a=U↔b=V))
  (hs:∀a b,R a b->oA (λp q=>p.1=q.1/\R p.2 q.2) (l.sc a) (z.sc b)) (ht:∀a b,R a b->l.ty a=z.ty b) (hr:R I K):lM l B I=lM z D K:=by
 have e1:jQ l B I=nX l.sc (B+D+1) I []:=Xl Q Met.nil h1 ah aF;have e2:jQ z D K=nX z.sc (B+D+1) K []:=Xl S Met.nil h2 ah aF;have ho:oA R (jQ l B I) (jQ z D K):=by rw[e1,e2];exact Xm hR hs _ _ _ _ _ hr trivial
 unfold lM;congr 1;refine oA.map_eq (λa b L=> ?_) ho;rw[ht a b L];congr 1;exact oA.map_eq (λp q O=>by rw[O.1,oA.idx hR O.2 ho]) (hs a b L)
end Go.Proofs.YthppjmoncapdfaaGreatDoor.cl.pf
namespace Go.Proofs.YthppjmoncapdfaaGreatDoor.cl.pf
open Go Go.AM
def SE (x:Node):List (Int×Nat):=x.bD.map λa=>(a.aT,a.To.toNat)
def iY (f:FSt) (n:Nat):List (Int×Nat):=match f.aj[n]? with
 |some x=>SE x
 |none=>[]
def ny (f:FSt) (n:Nat):Int:=match f.aj[n]? with
 |some x=>x.cQ
 |none=>0
def mJ (f:FSt):Gr:=⟨iY f,ny f⟩
def zl (l:List (Int×Nat)):Prop:=l.Pairwise λp q=>p.1<q.1
def zl.KC {l:List (Int×Nat)} (h:zl l) {f:Int} {a b:Nat} (q:(f,a)∈l) (z:(f,b)∈l):a=b:=by induction l with
 |nil=>cases q
 |cons p l B=>
  have h:=dA.1 h;rcases aG.1 q with q|q<;>rcases aG.1 z with z|z
  .exact(Prod.mk.inj (q.trans z.symm)).2
  .have:=h.1 _ z;subst q;simp at this
  .have:=h.1 _ q;subst z;simp at this
  .exact B h.2 q z
theorem zl.ext:∀{l m:List (Int×Nat)},zl l->zl m->(∀p,p∈l↔p∈m)->l=m
 |[],[],_,_,_=>rfl
 |[],q::m,_,_,h=>absurd ((h q).2 ah) ah
 |p::l,[],_,_,h=>absurd ((h p).1 ah) ah
 |p::l,q::m,L,O,h=>by
  have z:=dA.1 L;have B:=dA.1 O;have e:p=q:=by
   rcases aG.1 ((h p).1 ah) with e|D
   .exact e
   .rcases aG.1 ((h q).2 ah) with e|K
    .exact e.symm
    .have:=B.1 _ D;have:=z.1 _ K;omega
  subst e;rw[zl.ext z.2 B.2 λx=> ?_];constructor
  .intro I;rcases aG.1 ((h x).1 (by simp[I])) with e|D
   .have:=z.1 _ I;subst e;omega
   .exact D
  .intro I;rcases aG.1 ((h x).2 (by simp[I])) with e|D
   .have:=B.1 _ I;subst e;omega
   .exact D
def zl.map {l:List (Int×Nat)} (h:zl l) (g:Nat->Nat):zl (l.map λp=>(p.1,g p.2)):=by unfold zl;rw[gU];exact h
def zl.nil:zl []:=List.Pairwise.nil
structure GO (T F:Nat) (G:Gr) (N:Nat):Prop where
 bd:Bd G.sc N
 yh:∀n,n<N->zl (G.sc n)
 ft:∀n,n<N->∀p∈G.sc n,0<=p.1/\p.1<(F:Int)
 tp:∀n,n<N->0<=G.ty n/\G.ty n<(T:Int)
def rX.lt {sc:Nat->List (Int×Nat)} {N r i:Nat} (l:Bd sc N) (hr:r<N) (h:rX sc r i):i<N:=by induction h with
 |root=>exact hr
 |step _ q z=>exact l _ z _ q
theorem N0 {f:FSt} {n:Nat} (h:f.aj.length<=n):iY f n=[]:=by unfold iY;rw[fB h]
def qu {f:FSt} {n:Nat} (h:n<f.aj.length):iY f n=SE f.aj[n]:=by unfold iY;rw[aM h]
theorem ox {f:FSt} {n:Nat} (h:n<f.aj.length):ny f n=f.aj[n].cQ:=by unfold ny;rw[aM h]
def uW:∀{o:List Nat},o.Nodup->∀{i x:Nat},o[i]? =some x->o.idxOf x=i
 |[],_,i,x,h=>by simp at h
 |y::o,l,0,x,h=>by simp at h;subst h;simp
 |y::o,l,i+1,x,h=>by
  rw[fA] at l;rw[qU] at h;have q:x∈o:=aI h
  have:(y==x)=false:=iN.2 λe=>l.1 (e▸q)
  rw[tW,this,uW l.2 h];rfl
def wM:∀{o:List Nat} {x:Nat},x∈o->o[o.idxOf x]? =some x
 |y::o,x,h=>by
  rw[tW];by_cases e:y=x
  .subst e;simp
  .rw[iN.2 e];show(y::o)[o.idxOf x+1]? =some x;rw[qU];rcases aG.1 h with h|h
   .exact absurd h.symm e
   .exact wM h
section
variable {G:Gr} {N r:Nat}
def Vy {i x:Nat} (h:(jQ G N r)[i]? =some x):(lM G N r).aj[i]? =some ⟨G.ty x,(G.sc x).map λp=>⟨p.1,((jQ G N r).idxOf p.2:Nat)⟩⟩:=by show(List.map _ _)[i]? =_;rw[dF,h];rfl
def BX {i x:Nat} (h:(jQ G N r)[i]? =some x):iY (lM G N r) i=(G.sc x).map λp=>(p.1,(jQ G N r).idxOf p.2):=by unfold iY;rw[Vy h];simp only[SE,eV];rfl
def Mo {i x:Nat} (h:(jQ G N r)[i]? =some x):ny (lM G N r) i=G.ty x:=by unfold ny;rw[Vy h]
def H7:(lM G N r).aj.length=(jQ G N r).length:=by show(List.map _ _).length=_;simp
def HZ {i:Nat} (h:i<(lM G N r).aj.length):∃x,(jQ G N r)[i]? =some x:=by rw[H7] at h;exact⟨_,aM h⟩
def idx_lt {o:List Nat} {x:Nat} (h:x∈o):o.idxOf x<o.length:=List.idxOf_lt_length_of_mem h
def oA.EW {z B:Type} {R:z->B->Prop} {g:z->B}:∀{l:List z},(∀p∈l,R p (g p))->oA R l (l.map g)
 |[],_=>trivial
 |p::l,h=>⟨h p ah,oA.EW λq D=>h q (by simp[D])⟩
variable {T F:Nat} (hG:GO T F G N) (hr:r<N)
include hG hr
theorem Tf:Bd (iY (lM G N r)) ((lM G N r).aj.length):=by intro i B p l;obtain⟨x,z⟩:=HZ B;rw[BX z] at l;obtain⟨q,D,rfl⟩:=aD.1 l;rw[H7];exact idx_lt (Ag hG.bd hr (aI z) D)
theorem can_go:GO T F (mJ (lM G N r)) ((lM G N r).aj.length):=by
 have l:∀{i x:Nat},(jQ G N r)[i]? =some x->x<N:=λh=>(uw hG.bd hr).lt _ (aI h)
 refine⟨Tf hG hr,λi D=> ?_,λi D p B=> ?_,λi D=> ?_⟩<;>obtain⟨x,z⟩:=HZ D
 .show zl (iY _ i);rw[BX z];exact(hG.yh x (l z)).map λy=>(jQ G N r).idxOf y
 .have B:p∈iY (lM G N r) i:=B;rw[BX z] at B;obtain⟨q,I,rfl⟩:=aD.1 B;exact hG.ft x (l z) q I
 .show 0<=ny _ i/\ny _ i<_;rw[Mo z];exact hG.tp x (l z)
theorem Th:0<(lM G N r).aj.length:=by have:=aI (Af hG.bd hr);rw[H7];exact xP this
theorem can_can:lM (mJ (lM G N r)) ((lM G N r).aj.length) 0=lM G N r:=by
 have nd:=(uw hG.bd hr).nd;refine(VA (R:=λa b=>(jQ G N r)[b]? =some a) hG.bd (Tf hG hr) hr (Th hG hr) (λ{a b z B} h l=> ?_) (λa b h=> ?_) (λa b h=> ?_) (Af hG.bd hr)).symm
 .constructor
  .intro e;subst e;rw[<-uW nd h,<-uW nd l]
  .intro e;subst e;rw[h] at l;exact cU l
 .show oA _ _ (iY _ b);rw[BX h];refine oA.EW λp q=>⟨rfl,?_⟩
  exact wM (Ag hG.bd hr (aI h) q)
 .exact(Mo h).symm
end
structure Can (T F:Nat) (f:FSt):Prop where
 ne:0<f.aj.length
 go:GO T F (mJ f) (f.aj.length)
 eq:f=lM (mJ f) (f.aj.length) 0
def Tg {T F:Nat} {G:Gr} {N r:Nat} (hG:GO T F G N) (hr:r<N):Can T F (lM G N r):=
 ⟨Th hG hr,can_go hG hr,(can_can hG hr).symm⟩
def nd_all {N:Nat} {o:List Nat} (D:o.Nodup) (B:∀x∈o,x<N) (I:N<=o.length) {i:Nat} (z:i<N):i∈o:=by
 apply dz;intro h;have q:(i::o).Nodup:=fA.2 ⟨h,D⟩;have:=vN q (N:=N) λx l=>by
  rcases aG.1 l with rfl|l
  .exact z
  .exact B x l
 simp at this;omega
def asc_mem {T F:Nat} {f:FSt} (h:GO T F (mJ f) (f.aj.length)) (i:Nat):zl (iY f i):=by
 by_cases l:i<f.aj.length
 .exact h.yh i l
 .rw[N0 af];exact zl.nil
namespace Can
variable {T F:Nat} {f:FSt} (h:Can T F f)
include h
theorem bd:Bd (iY f) (f.aj.length):=h.go.bd
theorem yh (i:Nat):zl (iY f i):=asc_mem h.go i
theorem met:Met (f.aj.length) (jQ (mJ f) (f.aj.length) 0):=uw h.go.bd h.ne
theorem olen:(jQ (mJ f) (f.aj.length) 0).length=f.aj.length:=by
 have:f.aj.length=(lM (mJ f) f.aj.length 0).aj.length:=aK (λg:FSt=>g.aj.length) h.eq
 rw[H7] at this;exact this.symm
theorem omem {i:Nat} (l:i<f.aj.length):i∈jQ (mJ f) (f.aj.length) 0:=nd_all h.met.nd h.met.lt (by rw[h.olen];exact aU _) l
theorem Jq {i:Nat} (l:i<f.aj.length):rX (iY f) 0 i:=(G5 h.go.bd h.ne).1 (h.omem l)
theorem RV {i:Nat} (l:rX (iY f) 0 i):i<f.aj.length:=l.lt h.bd h.ne
theorem oat {i:Nat} (D:rX (iY f) 0 i):(jQ (mJ f) (f.aj.length) 0)[i]? =some i:=by induction D with
 |root=>exact Af h.go.bd h.ne
 | @step n p K q L=>
  have l:=q;have e:iY f n=iY (lM (mJ f) (f.aj.length) 0) n:=aK (λg=>iY g n) h.eq;rw[BX L] at e;have z:(p.1,(jQ (mJ f) (f.aj.length) 0).idxOf p.2)∈iY f n:=by rw[e];exact aD.2 ⟨p,q,rfl⟩
  have B:=(h.yh n).KC (a:=p.2) l z;have I:p.2∈jQ (mJ f) (f.aj.length) 0:=h.omem (h.bd n (h.RV K) p l);have:=wM I;rw[<-B] at this;exact this
theorem ord:jQ (mJ f) (f.aj.length) 0=List.range (f.aj.length):=by
 apply kq;intro i;by_cases l:i<f.aj.length
 .rw[h.oat (h.Jq l),oG l]
 .rw[fB (by rw[h.olen];omega),fB (by simpa using l)]
theorem nn {x:Node} (l:x∈f.aj) {a:bY} (q:a∈x.bD):0<=a.To:=by rw[h.eq] at l;obtain⟨n,_,rfl⟩:=aD.1 l;obtain⟨p,_,rfl⟩:=aD.1 q;exact xQ _
end Can
def Pre (sc:Nat->List (Int×Nat)) (o:List Nat):Prop:=∀i x,o[i]? =some x->0<i->∃j,j<i/\∃y,o[j]? =some y/\∃p∈sc y,p.2=x
def Pre.snoc {sc:Nat->List (Int×Nat)} {o:List Nat} {n:Nat} (h:Pre sc o) (K:o=[]\/∃y∈o,∃p∈sc y,p.2=n):Pre sc (o++[n]):=by
 intro i x l D;by_cases I:i<o.length
 .rw[dD I] at l;obtain⟨j,q,y,B,z⟩:=h i x l D;exact⟨j,q,y,by rw[dD af];exact B,z⟩
 .rw[ga af] at l
  have:i-o.length=0:=by cases e:i-o.length with
   |zero=>rfl
   |succ k=>rw[e] at l;simp at l
  rw[this] at l;simp at l;subst l;rcases K with rfl|⟨y,B,z⟩
  .simp at this;omega
  .obtain⟨j,q⟩:=gE.1 B;have:=(bF.1 q).1;exact⟨j,by omega,y,by rw[dD this];exact q,z⟩
def Su {sc:Nat->List (Int×Nat)}:∀(k n:Nat) (o:List Nat),Pre sc o->(o=[]\/∃y∈o,∃p∈sc y,p.2=n)->Pre sc (nX sc k n o)
 |0,_,o,h,_=>h
 |k+1,n,o,h,D=>by
  rw[nX];split
  .exact h
  .have key:∀(l:List (Int×Nat)) (o:List Nat),Pre sc o->n∈o->(∀p∈l,p∈sc n)->Pre sc (rS sc k l o):=by
    intro l;induction l with
    |nil=>intro o h _ _;exact h
    |cons p l L=>intro o h z B;exact L _ (Su k p.2 o h (.inr ⟨n,z,p,B p ah,rfl⟩)) ((Ez k p.2 o).subset z) λq K=>B q (by simp[K])
   exact key _ _ (h.snoc D) ah λp I=>I
def Can.pred {T F:Nat} {f:FSt} (h:Can T F f) {i:Nat} (z:0<i) (B:i<f.aj.length):∃j,j<i/\∃p∈iY f j,p.2=i:=by have l:Pre (iY f) (jQ (mJ f) (f.aj.length) 0):=Su _ _ _ (λi x K=>by simp at K) (.inl rfl);rw[h.ord] at l;obtain⟨j,D,y,q,I⟩:=l i i (oG B) z;rw[oG af] at q;cases q;exact⟨j,D,I⟩
structure TO (T:Nat) (sb:Int->Int->Prop):Prop where
 rl:∀{a b},sb a b->0<=a/\a<(T:Int)
 rr:∀{a b},sb a b->0<=b/\b<(T:Int)
 refl:∀{a},0<=a->a<(T:Int)->sb a a
 trans:∀{a b c},sb a b->sb b c->sb a c
 anti:∀{a b},sb a b->sb b a->a=b
 top:∀{a},0<=a->a<(T:Int)->sb 0 a
def CH (sb:Int->Int->Prop) (G:Gr) (r:Nat) (H:Gr) (s:Nat) (m:Nat->Nat):Prop:=
 m r=s/\∀i,rX G.sc r i->sb (G.ty i) (H.ty (m i))/\∀p∈G.sc i,(p.1,m p.2)∈H.sc (m i)
def CH.Jq {sb:Int->Int->Prop} {G H:Gr} {r s:Nat} {m:Nat->Nat} (h:CH sb G r H s m) {i:Nat} (l:rX G.sc r i):rX H.sc s (m i):=by induction l with
 |root=>rw[h.1];exact .root
 |step q z B=>exact B.step ((h.2 _ q).2 _ z)
def CH.comp {s1 s2 s3:Int->Int->Prop} (D:∀{a b c},s1 a b->s2 b c->s3 a c) {G H K:Gr} {r s t:Nat} {m z:Nat->Nat} (h:CH s1 G r H s m) (q:CH s2 H s K t z):CH s3 G r K t (λi=>z (m i)):=
 ⟨by show z (m r)=t;rw[h.1,q.1],λi l=>⟨D (h.2 i l).1 (q.2 _ (h.Jq l)).1,λp B=>(q.2 _ (h.Jq l)).2 _ ((h.2 i l).2 p B)⟩⟩
def Le (sb:Int->Int->Prop) (f g:FSt):Prop:=∃m,CH sb (mJ f) 0 (mJ g) 0 m
def CH.idG {sb:Int->Int->Prop} {G:Gr} {r:Nat} (h:∀i,rX G.sc r i->sb (G.ty i) (G.ty i)):CH sb G r G r id:=⟨rfl,λi l=>⟨h i l,λp q=>q⟩⟩
section
variable {T F:Nat} {sb:Int->Int->Prop} (hT:TO T sb)
include hT
theorem Le.refl {f:FSt} (h:Can T F f):Le sb f f:=⟨id,CH.idG λi l=>hT.refl (h.go.tp i (h.RV l)).1 (h.go.tp i (h.RV l)).2⟩
theorem Le.trans {f g k:FSt} (h:Le sb f g) (l:Le sb g k):Le sb f k:=by obtain⟨m,h⟩:=h;obtain⟨q,l⟩:=l;exact⟨_,CH.comp (s1:=sb) (s2:=sb) (s3:=sb) (λh l=>hT.trans h l) h l⟩
theorem Le.anti {f g:FSt} (I:Can T F f) (K:Can T F g) (h:Le sb f g) (z:Le sb g f):f=g:=by
 obtain⟨m,h⟩:=h;obtain⟨V,z⟩:=z;have e1:∀i,rX (iY f) 0 i->V (m i)=i:=by have L:=CH.comp (s1:=sb) (s2:=sb) (s3:=sb) (λh z=>hT.trans h z) h z;intro i R;induction R with
  |root=>exact L.1
  | @step n p S D U=>have l:=(L.2 n S).2 p D;simp only[U] at l;exact((I.yh n).KC (a:=p.2) D l).symm
 have e2:∀i,rX (iY g) 0 i->m (V i)=i:=by have L:=CH.comp (s1:=sb) (s2:=sb) (s3:=sb) (λh z=>hT.trans h z) z h;intro i R;induction R with
  |root=>exact L.1
  | @step n p S D U=>have l:=(L.2 n S).2 p D;simp only[U] at l;exact((K.yh n).KC (a:=p.2) D l).symm
 rw[I.eq,K.eq];refine VA (R:=λa b=>rX (iY f) 0 a/\m a=b) I.bd K.bd I.ne K.ne ?_ ?_ ?_ ⟨.root,h.1⟩
 .rintro a b a' b' ⟨B,rfl⟩ ⟨Q,rfl⟩;constructor
  .intro e;rw[e]
  .intro e;rw[<-e1 a B,<-e1 a' Q,e]
 .rintro a b ⟨B,rfl⟩;have hm:=h.Jq B;have e:iY g (m a)=(iY f a).map λp=>(p.1,m p.2):=by
   refine(zl.ext ((I.yh a).map m) (K.yh (m a)) λq=> ?_).symm;constructor
   .intro O;obtain⟨p,D,rfl⟩:=aD.1 O;exact(h.2 a B).2 p D
   .intro O;have l:=(z.2 _ hm).2 q O;rw[e1 a B] at l;refine aD.2 ⟨_,l,?_⟩;show(q.1,m (V q.2))=q;rw[e2 q.2 (hm.step O)]
  show oA _ (iY f a) (iY g (m a));rw[e];exact oA.EW λp D=>⟨rfl,B.step D,rfl⟩
 .rintro a b ⟨B,rfl⟩;have l:=(z.2 _ (h.Jq B)).1;rw[e1 a B] at l;exact hT.anti (h.2 a B).1 l
end
section
variable {T F:Nat} {G:Gr} {N r:Nat} (hG:GO T F G N) (hr:r<N)
include hG hr
theorem VW {sb:Int->Int->Prop} (B:∀{a},0<=a->a<(T:Int)->sb a a):CH sb G r (mJ (lM G N r)) 0 (λi=>(jQ G N r).idxOf i):=by
 refine⟨uW (uw hG.bd hr).nd (Af hG.bd hr),λi l=> ?_⟩;have q:=(G5 hG.bd hr).2 l;have:=hG.tp i (l.lt hG.bd hr);refine⟨?_,λp z=> ?_⟩
 .show sb _ (ny _ ((jQ G N r).idxOf i));rw[Mo (wM q)];exact B this.1 this.2
 .show _∈iY _ ((jQ G N r).idxOf i);rw[BX (wM q)];exact aD.2 ⟨p,z,rfl⟩
theorem Vz {sb:Int->Int->Prop} (Q:∀{a},0<=a->a<(T:Int)->sb a a):CH sb (mJ (lM G N r)) 0 G r (λi=>(jQ G N r).getD i r):=by
 have K:=Af hG.bd hr;refine⟨by show(jQ G N r).getD 0 r=r;rw[aZ,K];rfl,λi O=> ?_⟩;obtain⟨x,z⟩:=HZ (O.lt (Tf hG hr) (Th hG hr));have D:=aI z;have:=hG.tp x ((uw hG.bd hr).lt x D);have B:(jQ G N r).getD i r=x:=by rw[aZ,z];rfl
 refine⟨?_,λp l=> ?_⟩
 .show sb (ny _ _) (G.ty ((jQ G N r).getD i r));rw[Mo z,B];exact Q this.1 this.2
 .have l:p∈iY (lM G N r) i:=l;rw[BX z] at l;obtain⟨q,I,rfl⟩:=aD.1 l;have L:=wM (Ag hG.bd hr D I);show(q.1,(jQ G N r).getD _ r)∈G.sc ((jQ G N r).getD i r);rw[B,aZ,L];exact I
end
