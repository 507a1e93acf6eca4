/- READING. -/
import Derived.Test.YtbnlhmaaccgbjaaGreatDoorAmP
import Derived.Deep.Slices
import Derived.OpenShut
import Derived.Carry
import Derived.ProofKit
import Derived.Test.YtbnlhmaaccgbjaaGreatDoorClT
set_option linter.all false
namespace Go.AM
open Go.RowKit Go.ChangeShapes Go.WideShapes Go.ChangeAt
mutual
def AV.bulk:AV->Nat
 | .str s=>s.length+1
 | .dD _ xs=>Bn xs+1
 | .agg cs=>mV cs
 | .bool _=>1
 | .int _ _=>1
 | .fn _ _=>1
 | .iQ cs=>mV cs
 | .ref _=>1
 | .mp _ _=>1
 | .self _=>1
 | .rD=>1
 | .tR=>1
 | .hole=>1
def mV:List AV->Nat
 |[]=>0
 |a::l=>AV.bulk a+mV l
def Bn:List (List AV)->Nat
 |[]=>0
 |c::l=>mV c+Bn l
end
mutual
def AV.wf:AV->Prop
 | .str s=>s.length<=maxLen
 | .dD _ xs=>wfR xs
 | .agg cs=>WL cs
 | .bool _=>True
 | .int k n=>(Lit.int k n).wf=true
 | .fn _ _=>True
 | .iQ cs=>WL cs
 | .ref _=>True
 | .mp _ _=>True
 | .self _=>True
 | .rD=>True
 | .tR=>True
 | .hole=>True
def WL:List AV->Prop
 |[]=>True
 |a::l=>AV.wf a/\WL l
def wfR:List (List AV)->Prop
 |[]=>True
 |c::l=>WL c/\wfR l
end
def Od (a b:List AV):mV (a++b)=mV a+mV b:=by induction a with
 |nil=>simp[mV]
 |cons x a l=>simp only[gi,mV,l];omega
def WM {a b:List AV}:WL (a++b)↔WL a/\WL b:=by induction a with
 |nil=>simp[WL]
 |cons x a l=>simp only[gi,WL,l,rO]
def wfR_all {l:List (List AV)} (h:∀c∈l,WL c):wfR l:=by induction l with
 |nil=>trivial
 |cons c l z=>exact⟨h c ai,z λx q=>h x (by simp[q])⟩
def Y7 {l:List (List AV)} {c:List AV} (q:c∈l):mV c<=Bn l:=by induction l with
 |nil=>cases q
 |cons x l z=>
  simp only[Bn];rcases aJ.1 q with rfl|q
  .omega
  .have:=z q;omega
structure vE {H:Type} (bk:DataW H->Nat) (UF:List (DataW H)->Nat):Prop where
 str:∀l,bk (.lit (.string l))=l.length+1
 lit:∀l,1<=bk (.lit l)
 nil:1<=bk .nil
 slice:∀e s,bk (.slice e s)=UF e+UF s+1
 agg:∀p,bk (.agg p)=UF p+1
 nilA:UF []=0
 abd:∀d r,UF (d::r)=bk d+UF r
def muW (w:World):Mu:=λb j=>H7 w b j
def pub_muW (w:World):Mb (muW w) w:=λ_ _ _ h=>h
section
variable {H:Type} {enc:TypeId×Value->H} {P:Program} {w:World} {bk:DataW H->Nat} {UF:List (DataW H)->Nat}
def Aw (enc:TypeId×Value->H) (P:Program) (w:World) (bk:DataW H->Nat) (n:Nat) (t:TypeId) (Q:List AV->Prop):Prop:=
 ∀q d z,DataW.trod enc P w 0 (λ_=>true) true n t q=some (d,z)->∃l,Q l/\lR (muW w) l q/\mV l<=bk d/\WL l
def Aw.zero {t:TypeId} {Q:List AV->Prop}:Aw enc P w bk 0 t Q:=λl d q h=>by simp[DataW.trod] at h
def Aw.mono {n:Nat} {t:TypeId} {Q l:List AV->Prop} (h:Aw enc P w bk n t Q) (I:∀a,Q a->l a):Aw enc P w bk n t l:=λq d K D=>let⟨a,z,B⟩:=h q d K D;⟨a,I a z,B⟩
def PG (z:vE bk UF) {n:Nat} {t:TypeId} {k:IntKind} (B:P.underlying t=some (.int k)):Aw enc P w bk n t λl=>∃x,l=dS k x:=by
 intro I d K h;obtain⟨x,rfl,q,D⟩:=DataW.trod_int B h;simp only[ck] at q;obtain⟨rfl,rfl⟩:=q;refine⟨dS k x,⟨x,rfl⟩,⟨cE (by simp[rep]) dA,by simp[Value.oneCell']⟩,?_,?_⟩
 .simp only[dS,mV,AV.bulk];exact z.lit _
 .exact⟨D,trivial⟩
def DY (z:vE bk UF) {n:Nat} {t:TypeId} (B:P.underlying t=some .string):Aw enc P w bk n t λl=>∃x,l=oO x:=by
 intro D d K h;obtain⟨s,rfl,q,I⟩:=DataW.trod_string B h;simp only[ck] at q;obtain⟨rfl,rfl⟩:=q;refine⟨oO s.data.toList,⟨_,rfl⟩,⟨cE (by simp[rep]) dA,by simp[Value.oneCell']⟩,?_,?_⟩
 .simp only[oO,mV,AV.bulk,z.str];omega
 .refine⟨?_,trivial⟩
  have:s.data.toList.length=s.size:=by rw[tG];rfl
  simp only[AV.wf];omega
def MB {D:Mu} {q b:Nat}:∀{xs:List (List AV)} {l:Nat},(∀i x,xs[i]? =some x->∃z,lR D x z/\z.length=q/\∀j u,z[j]? =some u->D b (l+i *q+j)=some u)->lE D q b xs l:=by intro xs;induction xs with
 |nil=>intro l _;simp[lE]
 |cons x xs Q=>intro l h;rw[lE];obtain⟨z,I,K,L⟩:=h 0 x rfl;refine⟨⟨z,I.1,I.2,K,λj u B=>by have:=L j u B;simpa using this⟩,Q λi y O=> ?_⟩;obtain⟨V,R,S,U⟩:=h (i+1) y (by simpa using O);refine⟨V,R,S,λj u B=> ?_⟩;have:=U j u B;rwa[show l+(i+1) *q+j=l+q+i *q+j from by rw[jA];omega] at this
def aaW (z:vE bk UF):∀(xs:List (List AV)) (l:List (DataW H)),xs.length=l.length->(∀(i:Nat) (x:List AV) (d:DataW H),xs[i]? =some x->l[i]? =some d->mV x<=bk d)->Bn xs<=UF l:=by intro xs;induction xs with
 |nil=>intro l _ _;simp[Bn]
 |cons x xs I=>intro l q h;cases l with
  |nil=>simp at q
  |cons d l=>
   rw[z.abd];have K:=h 0 x d rfl rfl;have:=I l (by simpa using q) λi y e D B=>h (i+1) y e (by simpa using D) (by simpa using B)
   simp only[Bn];omega
def Ft (hB:vE bk UF) {n:Nat} {t e:TypeId} {sz:Nat} (ht:P.underlying t=some (.slice e)) (hc:P.cellsOf e=sz) (hpos:0<sz) {Q:List AV->Prop} (he:Aw enc P w bk n e Q):
  Aw enc P w bk (n+1) t λavs=>∃xs,avs=[.dD sz xs]/\∀x∈xs,Q x:=by
 intro cs d ps h;rcases DataW.trod_slice ht h with⟨rfl,l⟩|⟨a,len,cap,elems,rest,n',hn,rfl,l,hb,hl,hm,hlen,hel,_,_⟩
 .simp only[ck] at l;obtain⟨rfl,rfl⟩:=l;refine⟨[.dD sz []],⟨[],rfl,ai⟩,⟨cE ?_ dA,by simp[Value.oneCell']⟩,?_,?_⟩
  .rw[rep];exact⟨none,0,rfl,aU _,by simp[maxLen], .inl rfl⟩
  .simp only[mV,AV.bulk,Bn];exact hB.nil
  .simp[WL,AV.wf,wfR]
 .obtain rfl:n=n':=by omega
  simp only[ck] at l;obtain⟨rfl,rfl⟩:=l;have each:∀i,i<len->∃U:List AV,Q U/\∃z,w.cells? 0 (a.add (i *sz)) sz=some z/\lR (muW w) U z/\(∀x,elems[i]? =some x->mV U<=bk x.1)/\WL U:=by
   intro i D;have V:=hel i D;rw[hc] at V;obtain⟨x,l⟩:∃x,elems[i]? =some x:=⟨elems[i]'(by omega),aK af⟩
   rw[l] at V;obtain⟨z,B,O⟩:=dm.1 V;obtain⟨U,k1,k2,k3,k4⟩:=he z x.1 x.2 O;exact⟨U,k1,z,B,k2,λy hy=>by rw[l] at hy;injection hy with hy;subst hy;exact k3,k4⟩
  obtain⟨f,hf⟩:=Deep.choose_lt each;have K:∀i x,((List.range len).map f)[i]? =some x->i<len/\x=f i:=by intro i x l;simp only[dN,cB] at l;obtain⟨j,hj,rfl⟩:=l;obtain⟨V,B⟩:=bQ.1 hj;simp at V B;subst B;exact⟨V,rfl⟩
  have L:∀x∈(List.range len).map f,∃i,i<len/\x=f i:=by intro x l;simp only[aD,gL] at l;obtain⟨i,D,rfl⟩:=l;exact⟨i,D,rfl⟩
  refine⟨[.dD sz ((List.range len).map f)],⟨_,rfl,λx l=> ?_⟩,⟨cE ?_ dA,by simp[Value.oneCell']⟩,?_,?_⟩
  .obtain⟨i,D,rfl⟩:=L x l;exact(hf i D).1
  .rw[rep];refine⟨some a,cap,by simp,by simpa using hl,hm,?_⟩;cases len with
   |zero=>exact .inl ai
   |succ len=>
    right;have I:a.spot=none:=by
     obtain⟨_,z,B,_⟩:=hf 0 af;simp only[World.cells?,cW,fW] at B;have O:=mapM_some_get B 0 0 (by simp[hpos]);have h4:z[0]? ≠none:=by have:=y7 B;simp at this;intro R;rw[Hg] at R;omega
     rw[<-O] at h4;simp only[Addr.add,wM,fW] at h4;cases hsp:a.spot with
     |none=>rfl
     |some q=>exfalso;apply h4;simp only[World.cell?,hsp];split<;>simp
    obtain⟨b,S,sp⟩:=a;simp only at I;subst I;refine⟨b,S,rfl,MB λi x l=> ?_⟩;obtain⟨D,rfl⟩:=K i x l;obtain⟨_,z,B,k2,_⟩:=hf i D;simp only[World.cells?,cW,fW] at B;refine⟨z,k2,by simpa using y7 B,λj u hu=> ?_⟩;have hj:j<sz:=by have:=y7 B;simp at this;have:=(bQ.1 hu).1;omega
    have O:=mapM_some_get B j j (by simp[hj]);rw[hu,Deep.add_add] at O;unfold muW;have e:(⟨b,S,none⟩:Addr).add (i *sz+j)=⟨b,S+i *sz+j,none⟩:=by
     unfold Addr.add;split
     .rename_i h0;rw[kX,h0];rfl
     .simp[kX]
    rw[e] at O;exact xw O (k2.2 u (aZ hu))
  .simp only[mV,AV.bulk,hB.slice];have:=aaW hB ((List.range len).map f) (elems.map (·.1)) (by simp[hlen]) λi x d l hd=>by
    obtain⟨D,rfl⟩:=K i x l;simp only[dN,cB] at hd;obtain⟨y,hy,rfl⟩:=hd;obtain⟨_,_,_,_,k,_⟩:=hf i D;exact k y hy
   omega
  .refine⟨wfR_all λx l=> ?_,trivial⟩;obtain⟨i,D,rfl⟩:=L x l;obtain⟨_,_,_,_,_,k⟩:=hf i D;exact k
def Cat:List (List AV->Prop)->List AV->Prop
 |[],l=>l=[]
 |Q::q,l=>∃a b,l=a++b/\Q a/\Cat q b
def Po (P:Program):Nat->List Field->Bool
 |_,[]=>true
 |q,f::l=>Nat.beq f.offset q&&Po P (q+P.cellsOf f.type) l
def WB (P:Program):List Field->Nat
 |[]=>0
 |f::l=>P.cellsOf f.type+WB P l
def aaw (enc:TypeId×Value->H) (P:Program) (w:World) (bk:DataW H->Nat) (n:Nat):List Field->List (List AV->Prop)->Prop
 |[],[]=>True
 |f::l,Q::q=>Aw enc P w bk n f.type Q/\aaw enc P w bk n l q
 |_,_=>False
def Z6 (hB:vE bk UF) {n:Nat} {K:List Value}:∀(B:List Field) (q:List (List AV->Prop)) (xs:List (DataW H×List MemPlace)) (l:Nat),aaw enc P w bk n B q->Po P l B=true->xs.length=B.length->l+WB P B<=K.length->
  (∀(i:Nat) (f:Field),B[i]? =some f->DataW.trod enc P w 0 (λ_=>true) true n f.type ((K.drop f.offset).take (P.cellsOf f.type))=xs[i]?)->
  ∃z,Cat q z/\lR (muW w) z ((K.drop l).take (WB P B))/\mV z<=UF (xs.map (·.1))/\WL z:=by
 intro B;induction B with
 |nil=>intro q xs l D _ L _ _;cases q with
  |nil=>exact⟨[],rfl,⟨by simp[WB,cM],by simp[WB]⟩,by simp[mV],trivial⟩
  |cons Q q=>exact D.elim
 |cons f B ih=>intro q xs l D R L O hx;cases q with
  |nil=>exact D.elim
  |cons Q q=>cases xs with
   |nil=>simp at L
   |cons x xs=>
    simp only[Po,aS] at R;have I:=beq_iff.1 R.1;simp only[WB] at O⊢;have V:=hx 0 f rfl;rw[I] at V;obtain⟨S,q0,r0,b0,w0⟩:=D.1 _ x.1 x.2 V;obtain⟨U,q1,r1,b1,w1⟩:=ih q xs (l+P.cellsOf f.type) D.2 R.2 (by simpa using L) af λi g hg=>hx (i+1) g (by simpa using hg)
    refine⟨S++U,⟨S,U,rfl,q0,q1⟩,?_,?_,WM.2 ⟨w0,w1⟩⟩
    .rw[List.take_add,List.drop_drop];exact r0.append r1
    .rw[Od,bw,hB.abd];omega
def rB (I:vE bk UF) {n:Nat} {t:TypeId} {l:Array Field} {Qs:List (List AV->Prop)} (U:P.underlying t=some (.struct l)) (R:Po P 0 l.toList=true) (S:WB P l.toList=P.cellsOf t)
  (L:aaw enc P w bk n l.toList Qs):Aw enc P w bk (n+1) t (Cat Qs):=by
 intro cs d ps h;obtain⟨xs,V,hn,K,Q,D,z⟩:=DataW.trod_struct U h;obtain rfl:n=V:=by omega
 simp only[ck] at K;obtain⟨rfl,rfl⟩:=K;obtain⟨B,q,r,b,wf⟩:=Z6 I l.toList Qs xs 0 L R (by simpa using D) af λi f O=>z i f (by simpa using O)
 refine⟨B,q,?_,by rw[I.agg];omega,wf⟩;rw[S,<-Q] at r;simpa using r
def WV {t:TypeId} {I:Array Field} {v:Value} {d:DataW H} {S:List MemPlace} {Q:List AV->Prop} {Rf:Reach} {z:Nat} (R:P.underlying t=some (.struct I)) (B:Value.okWide P w Rf z t v)
  (L:DataW.Trod enc P w 0 (λ_=>true) true t v d S) (K:∀n,Aw enc P w bk n t Q):∃l,Q l/\rep (muW w) (.agg l) v/\mV l<=bk d/\WL l:=by
 obtain⟨D,rfl,_⟩:=WideShapes.okWide_struct R B;obtain⟨n,O⟩:=L;obtain⟨l,q,r,b,wf⟩:=K n _ _ _ O;refine⟨l,q,?_,b,wf⟩;rw[rep];exact⟨D.toList,by simp,by simpa[Value.cells] using r.1,by simpa[Value.cells] using r.2⟩
end
def Ni {P:Program} {H:Nat->Hint} {gI:eN} {q:Qp} {B:Mu} (L:DV P=true) (D:∀f fn c,P.funcs[f]? =some fn->fn.body=some c->qY q B P (H f) fn.ntmps c) (z:iB q B P gI) {f:Nat} {avs:List AV} {us:List Value} {W:World} (hB:B.le (muW W)) (I:cM (muW W) avs us)
  (K:run P H gI f (avs.map .pv) []=some (.bool true,[])):Calls P f us.toArray W λe Q=>e= .returned (.bool true)/\Below W.heap.size W Q:=by
 have hs:∀{avs:List AV} {us:List Value},cM (muW W) avs us->ig (muW W) (λ_=> .bool false) (avs.map .pv) us:=by intro avs;induction avs with
  |nil=>intro us h;rw[cM] at h;subst h;rfl
  |cons a l ih=>intro us h;rw[cM] at h;obtain⟨u,O,rfl,V,h2⟩:=h;exact⟨u,O,rfl,V,ih h2⟩
 have:=(iB.noY (NK L D z f _ [] _ [] K W (muW W) (λ_=> .bool false) us hB (pub_muW W) (λid o h=>by cases h) (λi j oi oj h=>by cases h) (hs I)) λxs=>by simp[find]).2;refine this.mono ?_;rintro e Q ⟨v,μ',U,rfl,R⟩;have S:=R.pure rfl;rw[rep] at S;subst S;exact⟨rfl,Ey R⟩
def Ds {L:Type} {enc:TypeId×Value->L} {P:Program} (R:laidOutB P=true) {W O:World} (Q:Below W.heap.size W O):∀{B:List TypeId} {K:List Value} {D:List (DataW L)} {z:List MemPlace},(∀t∈B,P.readableRec t=true/\t<P.types.size)->
  (∀x∈z,x.block<W.heap.size)->DataW.TrodAll enc P W 0 (λ_=>true) true B K D z->DataW.TrodAll enc P O 0 (λb=>decide (b<W.heap.size)) true B K D z
 |[],[],[],_,_,_,h=>h
 |[],[],_::_,_,_,_,h=>h.elim
 |[],_::_,_,_,_,_,h=>by cases h
 |_::_,[],_,_,_,_,h=>by cases h
 |_::_,_::_,[],_,_,_,h=>h.elim
 |t::B,v::K,d::D,z,hr,l,h=>by obtain⟨p,q,S,U,rfl⟩:=h;exact⟨p,q,Below.trod R (hr t ai).1 (hr t ai).2 S Q (λx I=>l x (by simp[I])),Ds R Q (λt V=>hr t (by simp[V])) (λx I=>l x (by simp[I])) U,rfl⟩
def B9 {B:Type} {enc:TypeId×Value->B} {P:Program} {W:World}:∀{z:List TypeId} {I:List Value} {l:List (DataW B)} {D:List MemPlace},DataW.TrodAll enc P W 0 (λ_=>true) true z I l D->l.length=z.length
 |[],[],[],_,_=>rfl
 |[],[],_::_,_,h=>h.elim
 |[],_::_,_,_,h=>by cases h
 |_::_,[],_,_,h=>by cases h
 |_::_,_::_,[],_,h=>h.elim
 |t::z,v::I,d::l,D,h=>by obtain⟨p,q,L,K,rfl⟩:=h;simp[B9 K]
def NC {Q:Type} {enc:TypeId×Value->Q} {P:Program} {fn:Func} {s:ChangeSpec} {tb:TypeId} {W W':World} {args:Array Value} {D R:List (DataW Q)} {before:List MemPlace} {l I z:Bool}
  (hl:laidOutB P=true) (L:fn.params.toList.all (λt=>P.readableRec t&&decide (t<P.types.size))=true) (B:s.vars=[]) (O:fn.resultTypes= #[tb]) (htb:P.underlying tb=some .bool)
  (hfn:∀D:List (DataW Q),D.length=fn.params.size->s.fn Q D={ results:=[.lit (.bool true)],args:=D })
  (U:DataW.Whole enc P fn.params.toList s.vars l W args.toList D R before) (hb:Below W.heap.size W W'):
  s.post enc P fn l I z false W args (.bool true) W':=by
 have hlt:=U.lt;have V:=U;obtain⟨p,q,hA,S,rfl,_,_⟩:=U;rw[B] at S;obtain⟨rfl,rfl⟩:R=[]/\q=[]:=by cases R with
  |nil=>exact⟨rfl,S⟩
  |cons g R=>exact S.elim
 have K:=B9 hA;have e:=hfn D (by rw[K,tG]);refine⟨D,[],p++[],[],p,[],V,?_,?_,?_,hb.frame _,λh=>by cases h⟩
 .rw[dP,e,O];exact trodAll_cons_mk (shut_bool htb _) trodAll_mk0
 .rw[dP,e];refine Ds hl hb (λt ht=> ?_) (λx hx=>hlt x (by simp[hx])) hA;have:=cH.1 L t ht;simp only[aS,nM] at this;exact this
 .rw[dP,e,B];rfl
end Go.AM
namespace Go.Proofs.YtbnlhmaaccgbjaaGreatDoor.cl.pf
open Go Go.AM
def pQ {q z:Type} (R:q->z->Prop):List q->List z->Prop
 |[],[]=>True
 |a::l,b::m=>R a b/\pQ R l m
 |_,_=>False
def pQ.append {B D:Type} {R:B->D->Prop}:∀{l q:List B} {m z:List D},pQ R l m->pQ R q z->pQ R (l++q) (m++z)
 |[],_,[],_,_,h=>h
 |a::l,_,b::m,_,h,k=>⟨h.1,pQ.append h.2 k⟩
 |[],_,_::_,_,h,_=>h.elim
 |_::_,_,[],_,h,_=>h.elim
def pQ.map_eq {z B D:Type} {R:z->B->Prop} {f:z->D} {g:B->D} (q:∀a b,R a b->f a=g b):∀{l:List z} {m:List B},pQ R l m->l.map f=m.map g
 |[],[],_=>rfl
 |a::l,b::m,h=>by simp only[bw,q a b h.1,pQ.map_eq q h.2]
 |[],_::_,h=>h.elim
 |_::_,[],h=>h.elim
def pQ.mem_iff {R:Nat->Nat->Prop} (D:∀{a b z B},R a b->R z B->(a=z↔b=B)) {a b:Nat} (q:R a b):∀{l m:List Nat},pQ R l m->(a∈l↔b∈m)
 |[],[],_=>by simp
 |x::l,y::m,h=>by rw[aJ,aJ,pQ.mem_iff D q h.2,D q h.1]
 |[],_::_,h=>h.elim
 |_::_,[],h=>h.elim
def pQ.idx {R:Nat->Nat->Prop} (D:∀{a b z B},R a b->R z B->(a=z↔b=B)) {a b:Nat} (q:R a b):∀{l m:List Nat},pQ R l m->l.idxOf a=m.idxOf b
 |[],[],_=>rfl
 |x::l,y::m,h=>by
  rw[uP,uP,pQ.idx D q h.2];have:=D h.1 q;by_cases e:x=a
  .simp[e,this.1 e]
  .have I:y≠b:=λh=>e (this.2 h)
   simp[kN.2 e,kN.2 I]
 |[],_::_,h=>h.elim
 |_::_,[],h=>h.elim
def yq:∀{N:Nat} {o:List Nat},o.Nodup->(∀x∈o,x<N)->o.length<=N
 |0,o,_,h=>by cases o with
  |nil=>simp
  |cons x o=>have:=h x (by simp);omega
 |N+1,o,l,h=>by
  have B:(o.filter (· !=N)).Nodup:=l.filter _;have L:=yq (N:=N) B λx q=>by rw[c4] at q;have:=h x q.1;have:=nP.1 q.2;omega
  have D:∀{o:List Nat},o.Nodup->o.length<=(o.filter (· !=N)).length+1:=by intro o;induction o with
   |nil=>simp
   |cons x o K=>
    intro l;rw[gC] at l;by_cases e:x=N
    .subst e
     have:o.filter (· !=x)=o:=yW.2 λy I=>nP.2 λe=>l.1 (e▸I)
     simp[this]
    .have z:(x !=N)=true:=nP.2 e;have:=K l.2;simp only[nQ,z,fW,bp];omega
  have:=D l;omega
structure Gr where
 sc:Nat->List (Int×Nat)
 ty:Nat->Int
def nD (sc:Nat->List (Int×Nat)):Nat->Nat->List Nat->List Nat
 |0,_,o=>o
 |k+1,n,o=>if n∈o then o else(sc n).foldl (λo p=>nD sc k p.2 o) (o++[n])
abbrev sL (sc:Nat->List (Int×Nat)) (k:Nat) (l:List (Int×Nat)) (o:List Nat):List Nat:=l.foldl (λo p=>nD sc k p.2 o) o
def Bd (sc:Nat->List (Int×Nat)) (N:Nat):Prop:=∀n,n<N->∀p∈sc n,p.2<N
structure Met (N:Nat) (o:List Nat):Prop where
 nd:o.Nodup
 lt:∀x∈o,x<N
def Met.nil {N:Nat}:Met N []:=⟨yV,λ_ h=>by cases h⟩
def Met.snoc {N n:Nat} {o:List Nat} (h:Met N o) (D:n<N) (q:n∉o):Met N (o++[n]):=
 ⟨by
  rw[iI];exact⟨h.nd,by simp,λa B b z=>by simp at z;subst z;exact λe=>q (e▸B)⟩,λx l=>by
  rcases bu.1 l with l|l
  .exact h.lt x l
  .simp at l;subst l;exact D⟩
section
variable {sc:Nat->List (Int×Nat)} {N:Nat}
def Jn:∀(k n:Nat) (o:List Nat),o<+:nD sc k n o
 |0,_,o=>rP _
 |k+1,n,o=>by
  simp only[nD];split
  .exact rP _
  .refine y8 (List.prefix_append o [n]) ?_;generalize o++[n]=q;generalize sc n=l;induction l generalizing q with
   |nil=>exact rP _
   |cons p l z=>exact y8 (Jn k p.2 q) (z _)
def Cf (k:Nat):∀(l:List (Int×Nat)) (o:List Nat),o<+:sL sc k l o
 |[],o=>rP _
 |p::l,o=>y8 (Jn k p.2 o) (Cf k l _)
def Ar (B:Bd sc N):∀(k n:Nat) (o:List Nat),Met N o->n<N->Met N (nD sc k n o)
 |0,_,o,h,_=>h
 |k+1,n,o,h,I=>by
  simp only[nD];split
  .exact h
  .rename_i z;have key:∀(l:List (Int×Nat)) (o:List Nat),(∀p∈l,p.2<N)->Met N o->Met N (sL sc k l o):=by
    intro l;induction l with
    |nil=>intro o _ h;exact h
    |cons p l L=>intro o D h;exact L _ (λq K=>D q (by simp[K])) (Ar B k p.2 o h (D p ai))
   exact key _ _ (B n I) (h.snoc I z)
def Jl (k n:Nat) (o:List Nat):o.length<=(nD sc k n o).length:=(Jn k n o).length_le
def Ue (z:Bd sc N):∀(k n:Nat) (o:List Nat),Met N o->n<N->N<k+o.length->nD sc (k+1) n o=nD sc k n o
 |0,n,o,h,D,B=>by have:=yq h.nd h.lt;omega
 |k+1,n,o,h,D,B=>by
  rw[nD,nD];split
  .rfl
  .rename_i I;have key:∀(l:List (Int×Nat)) (o:List Nat),(∀p∈l,p.2<N)->Met N o->N<k+o.length->sL sc (k+1) l o=sL sc k l o:=by
    intro l;induction l with
    |nil=>intro o _ _ _;rfl
    |cons p l Q=>intro o K h B;have L:=K p ai;simp only[sL,gJ];rw[Ue z k p.2 o h L B];exact Q _ (λq O=>K q (by simp[O])) (Ar z k p.2 o h L) (by have:=Jl (sc:=sc) k p.2 o;omega)
   exact key _ _ (z n D) (h.snoc D I) (by simp only[cF,c7];omega)
def L6 (l:Bd sc N) {k n:Nat} {o:List Nat} (h:Met N o) (q:n<N) (z:N<k+o.length):∀j,nD sc (k+j) n o=nD sc k n o
 |0=>rfl
 |j+1=>by rw[<-kX,Ue l (k+j) n o h q af,L6 l h q z j]
def YN (q:Bd sc N) {k j n:Nat} {o:List Nat} (h:Met N o) (z:n<N) (D:N<k+o.length) (B:N<j+o.length):nD sc k n o=nD sc j n o:=by
 rcases Nat.le_total k j with l|l
 .obtain⟨d,rfl⟩:=Nat.le.dest l;exact(L6 q h z D d).symm
 .obtain⟨d,rfl⟩:=Nat.le.dest l;exact L6 q h z B d
def Aq (S:Bd sc N):∀(k n:Nat) (o:List Nat),Met N o->n<N->N<k+o.length->n∈nD sc k n o/\∀x∈nD sc k n o,x∉o->∀p∈sc x,p.2∈nD sc k n o
 |0,n,o,h,V,U=>by have:=yq h.nd h.lt;omega
 |k+1,n,o,h,V,U=>by
  rw[nD];split
  .rename_i I;exact⟨I,λx K z=>absurd K z⟩
  .rename_i I;have key:∀(l:List (Int×Nat)) (o:List Nat),(∀p∈l,p.2<N)->Met N o->N<k+o.length->(∀p∈l,p.2∈sL sc k l o)/\∀x∈sL sc k l o,x∉o->∀p∈sc x,p.2∈sL sc k l o:=by
    intro l;induction l with
    |nil=>intro o _ _ _;exact⟨λp O=>by(cases O),λx K z=>absurd K z⟩
    |cons p l ih=>
     intro o hl h U;have O:=hl p ai;obtain⟨c1,c2⟩:=Aq S k p.2 o h O U;have hm:=Ar S k p.2 o h O;have hlen:=Jl (sc:=sc) k p.2 o;obtain⟨Q,R⟩:=ih (nD sc k p.2 o) (λq D=>hl q (by simp[D])) hm af;have B:=Cf (sc:=sc) k l (nD sc k p.2 o);refine⟨λq D=> ?_,λx K z q D=> ?_⟩
     .rcases aJ.1 D with rfl|D
      .exact B.subset c1
      .exact Q q D
     .by_cases L:x∈nD sc k p.2 o
      .exact B.subset (c2 x L z q D)
      .exact R x K L q D
   obtain⟨Q,R⟩:=key (sc n) (o++[n]) (S n V) (h.snoc V I) (by simp only[cF,c7];omega);have B:=Cf (sc:=sc) k (sc n) (o++[n]);refine⟨B.subset ai,λx K z q D=> ?_⟩;by_cases e:x=n
   .subst e;exact Q q D
   .exact R x K (by simp[z,e]) q D
inductive sI (sc:Nat->List (Int×Nat)) (r:Nat):Nat->Prop where
 |root:sI sc r r
 |step {n:Nat} {p:Int×Nat}:sI sc r n->p∈sc n->sI sc r p.2
def YP {r:Nat}:∀(k n:Nat) (o:List Nat),sI sc r n->∀x∈nD sc k n o,x∉o->sI sc r x
 |0,n,o,_,x,B,z=>absurd B z
 |k+1,n,o,K,x,B,z=>by
  rw[nD] at B;split at B
  .exact absurd B z
  .have key:∀(l:List (Int×Nat)) (o:List Nat),(∀p∈l,sI sc r p.2)->∀x∈sL sc k l o,x∉o->sI sc r x:=by
    intro l;induction l with
    |nil=>intro o _ x B z;exact absurd B z
    |cons p l Q=>
     intro o I x B z;by_cases D:x∈nD sc k p.2 o
     .exact YP k p.2 o (I p ai) x D z
     .exact Q _ (λq O=>I q (by simp[O])) x B D
   by_cases e:x=n
   .subst e;exact K
   .exact key _ _ (λp L=>K.step L) x B (by simp[z,e])
end
def kB (G:Gr) (N r:Nat):List Nat:=nD G.sc (N+1) r []
def nt (G:Gr) (N r:Nat):FSt:=⟨(kB G N r).map λn=>⟨G.ty n,(G.sc n).map λp=>⟨p.1,((kB G N r).idxOf p.2:Nat)⟩⟩⟩
section
variable {G:Gr} {N r:Nat}
def vo (l:Bd G.sc N) (hr:r<N):Met N (kB G N r):=Ar l _ _ _ Met.nil hr
def adT (l:Bd G.sc N) (hr:r<N):r∈kB G N r:=(Aq l (N+1) r [] Met.nil hr ai).1
def BM (l:Bd G.sc N) (hr:r<N) {x:Nat} (z:x∈kB G N r) {p:Int×Nat} (q:p∈G.sc x):p.2∈kB G N r:=(Aq l (N+1) r [] Met.nil hr ai).2 x z ai p q
def IZ (l:Bd G.sc N) (hr:r<N) {x:Nat}:x∈kB G N r↔sI G.sc r x:=
 ⟨λh=>YP _ _ _ .root x h ai,λh=>by induction h with
  |root=>exact adT l hr
  |step _ q z=>exact BM l hr z q⟩
def yw (q:Bd G.sc N) (hr:r<N):(kB G N r)[0]? =some r:=by unfold kB;rw[nD];simp only[lW,eP,dK];obtain⟨t,l⟩:=Cf (sc:=G.sc) N (G.sc r) [r];show(sL G.sc N (G.sc r) [r])[0]? =some r;rw[<-l];rfl
end
def YO {L O:Nat->List (Int×Nat)} {R:Nat->Nat->Prop} (U:∀{a b Q S},R a b->R Q S->(a=Q↔b=S))
  (hs:∀a b,R a b->pQ (λp q=>p.1=q.1/\R p.2 q.2) (L a) (O b)):∀(k a b:Nat) (z B:List Nat),R a b->pQ R z B->pQ R (nD L k a z) (nD O k b B)
 |0,a,b,z,B,_,D=>D
 |k+1,a,b,z,B,I,D=>by
  rw[nD,nD];have V:=pQ.mem_iff U I D;by_cases h:a∈z
  .rw[aB h,aB (V.1 h)];exact D
  .rw[au h,au (λh'=>h (V.2 h'))];have key:∀(l m:List (Int×Nat)) (z B:List Nat),pQ (λp q=>p.1=q.1/\R p.2 q.2) l m->pQ R z B->pQ R (sL L k l z) (sL O k m B):=by
    intro l;induction l with
    |nil=>intro m z B K D;cases m with
     |nil=>exact D
     |cons q m=>exact K.elim
    |cons p l ih=>intro m z B K D;cases m with
     |nil=>exact K.elim
     |cons q m=>exact ih m _ _ K.2 (YO U hs k p.2 q.2 z B K.1.2 D)
   exact key _ _ _ _ (hs a b I) (D.append ⟨I,trivial⟩)
def W5 {l z:Gr} {B D I K:Nat} (Q:Bd l.sc B) (S:Bd z.sc D) (h1:I<B) (h2:K<D) {R:Nat->Nat->Prop} (hR:∀{a b U V},R a b->R U V->(a=U↔b=V))
  (hs:∀a b,R a b->pQ (λp q=>p.1=q.1/\R p.2 q.2) (l.sc a) (z.sc b)) (ht:∀a b,R a b->l.ty a=z.ty b) (hr:R I K):nt l B I=nt z D K:=by
 have e1:kB l B I=nD l.sc (B+D+1) I []:=YN Q Met.nil h1 ai aH;have e2:kB z D K=nD z.sc (B+D+1) K []:=YN S Met.nil h2 ai aH;have ho:pQ R (kB l B I) (kB z D K):=by rw[e1,e2];exact YO hR hs _ _ _ _ _ hr trivial
 unfold nt;congr 1;refine pQ.map_eq (λa b L=> ?_) ho;rw[ht a b L];congr 1;exact pQ.map_eq (λp q O=>by rw[O.1,pQ.idx hR O.2 ho]) (hs a b L)
end Go.Proofs.YtbnlhmaaccgbjaaGreatDoor.cl.pf
namespace Go.Proofs.YtbnlhmaaccgbjaaGreatDoor.cl.pf
open Go Go.AM
def scN (x:Node):List (Int×Nat):=x.cu.map λa=>(a.bN,a.To.toNat)
def kE (f:FSt) (n:Nat):List (Int×Nat):=match f.aA[n]? with
 |some x=>scN x
 |none=>[]
def rE (f:FSt) (n:Nat):Int:=match f.aA[n]? with
 |some x=>x.dU
 |none=>0
def oP (f:FSt):Gr:=⟨kE f,rE f⟩
def CO (l:List (Int×Nat)):Prop:=l.Pairwise λp q=>p.1<q.1
def CO.Rc {l:List (Int×Nat)} (h:CO l) {f:Int} {a b:Nat} (q:(f,a)∈l) (z:(f,b)∈l):a=b:=by induction l with
 |nil=>cases q
 |cons p l B=>
  have h:=dG.1 h;rcases aJ.1 q with q|q<;>rcases aJ.1 z with z|z
  .exact(Prod.mk.inj (q.trans z.symm)).2
  .have:=h.1 _ z;subst q;simp at this
  .have:=h.1 _ q;subst z;simp at this
  .exact B h.2 q z
theorem CO.ext:∀{l m:List (Int×Nat)},CO l->CO m->(∀p,p∈l↔p∈m)->l=m
 |[],[],_,_,_=>rfl
 |[],q::m,_,_,h=>absurd ((h q).2 ai) ai
 |p::l,[],_,_,h=>absurd ((h p).1 ai) ai
 |p::l,q::m,L,O,h=>by
  have z:=dG.1 L;have B:=dG.1 O;have e:p=q:=by
   rcases aJ.1 ((h p).1 ai) with e|D
   .exact e
   .rcases aJ.1 ((h q).2 ai) with e|K
    .exact e.symm
    .have:=B.1 _ D;have:=z.1 _ K;omega
  subst e;rw[CO.ext z.2 B.2 λx=> ?_];constructor
  .intro I;rcases aJ.1 ((h x).1 (by simp[I])) with e|D
   .have:=z.1 _ I;subst e;omega
   .exact D
  .intro I;rcases aJ.1 ((h x).2 (by simp[I])) with e|D
   .have:=B.1 _ I;subst e;omega
   .exact D
def CO.map {l:List (Int×Nat)} (h:CO l) (g:Nat->Nat):CO (l.map λp=>(p.1,g p.2)):=by unfold CO;rw[kO];exact h
def CO.nil:CO []:=List.Pairwise.nil
structure GO (T F:Nat) (G:Gr) (N:Nat):Prop where
 bd:Bd G.sc N
 Ay:∀n,n<N->CO (G.sc n)
 ft:∀n,n<N->∀p∈G.sc n,0<=p.1/\p.1<(F:Int)
 tp:∀n,n<N->0<=G.ty n/\G.ty n<(T:Int)
def sI.lt {sc:Nat->List (Int×Nat)} {N r i:Nat} (l:Bd sc N) (hr:r<N) (h:sI sc r i):i<N:=by induction h with
 |root=>exact hr
 |step _ q z=>exact l _ z _ q
theorem Yo {f:FSt} {n:Nat} (h:f.aA.length<=n):kE f n=[]:=by unfold kE;rw[gM h]
def wD {f:FSt} {n:Nat} (h:n<f.aA.length):kE f n=scN f.aA[n]:=by unfold kE;rw[aK h]
theorem Ao {f:FSt} {n:Nat} (h:n<f.aA.length):rE f n=f.aA[n].dU:=by unfold rE;rw[aK h]
def vU:∀{o:List Nat},o.Nodup->∀{i x:Nat},o[i]? =some x->o.idxOf x=i
 |[],_,i,x,h=>by simp at h
 |y::o,l,0,x,h=>by simp at h;subst h;simp
 |y::o,l,i+1,x,h=>by
  rw[gC] at l;rw[rQ] at h;have q:x∈o:=aZ h
  have:(y==x)=false:=kN.2 λe=>l.1 (e▸q)
  rw[uP,this,vU l.2 h];rfl
def vH:∀{o:List Nat} {x:Nat},x∈o->o[o.idxOf x]? =some x
 |y::o,x,h=>by
  rw[uP];by_cases e:y=x
  .subst e;simp
  .rw[kN.2 e];show(y::o)[o.idxOf x+1]? =some x;rw[rQ];rcases aJ.1 h with h|h
   .exact absurd h.symm e
   .exact vH h
section
variable {G:Gr} {N r:Nat}
def W4 {i x:Nat} (h:(kB G N r)[i]? =some x):(nt G N r).aA[i]? =some ⟨G.ty x,(G.sc x).map λp=>⟨p.1,((kB G N r).idxOf p.2:Nat)⟩⟩:=by show(List.map _ _)[i]? =_;rw[dN,h];rfl
def Br {i x:Nat} (h:(kB G N r)[i]? =some x):kE (nt G N r) i=(G.sc x).map λp=>(p.1,(kB G N r).idxOf p.2):=by unfold kE;rw[W4 h];simp only[scN,fo];rfl
def On {i x:Nat} (h:(kB G N r)[i]? =some x):rE (nt G N r) i=G.ty x:=by unfold rE;rw[W4 h]
def JS:(nt G N r).aA.length=(kB G N r).length:=by show(List.map _ _).length=_;simp
def Om {i:Nat} (h:i<(nt G N r).aA.length):∃x,(kB G N r)[i]? =some x:=by rw[JS] at h;exact⟨_,aK h⟩
def idx_lt {o:List Nat} {x:Nat} (h:x∈o):o.idxOf x<o.length:=List.idxOf_lt_length_of_mem h
def pQ.Gs {z B:Type} {R:z->B->Prop} {g:z->B}:∀{l:List z},(∀p∈l,R p (g p))->pQ R l (l.map g)
 |[],_=>trivial
 |p::l,h=>⟨h p ai,pQ.Gs λq D=>h q (by simp[D])⟩
variable {T F:Nat} (hG:GO T F G N) (hr:r<N)
include hG hr
theorem UR:Bd (kE (nt G N r)) ((nt G N r).aA.length):=by intro i B p l;obtain⟨x,z⟩:=Om B;rw[Br z] at l;obtain⟨q,D,rfl⟩:=aD.1 l;rw[JS];exact idx_lt (BM hG.bd hr (aZ z) D)
theorem can_go:GO T F (oP (nt G N r)) ((nt G N r).aA.length):=by
 have l:∀{i x:Nat},(kB G N r)[i]? =some x->x<N:=λh=>(vo hG.bd hr).lt _ (aZ h)
 refine⟨UR hG hr,λi D=> ?_,λi D p B=> ?_,λi D=> ?_⟩<;>obtain⟨x,z⟩:=Om D
 .show CO (kE _ i);rw[Br z];exact(hG.Ay x (l z)).map λy=>(kB G N r).idxOf y
 .have B:p∈kE (nt G N r) i:=B;rw[Br z] at B;obtain⟨q,I,rfl⟩:=aD.1 B;exact hG.ft x (l z) q I
 .show 0<=rE _ i/\rE _ i<_;rw[On z];exact hG.tp x (l z)
theorem US:0<(nt G N r).aA.length:=by have:=aZ (yw hG.bd hr);rw[JS];exact y9 this
theorem can_can:nt (oP (nt G N r)) ((nt G N r).aA.length) 0=nt G N r:=by
 have nd:=(vo hG.bd hr).nd;refine(W5 (R:=λa b=>(kB G N r)[b]? =some a) hG.bd (UR hG hr) hr (US hG hr) (λ{a b z B} h l=> ?_) (λa b h=> ?_) (λa b h=> ?_) (yw hG.bd hr)).symm
 .constructor
  .intro e;subst e;rw[<-vU nd h,<-vU nd l]
  .intro e;subst e;rw[h] at l;exact eT l
 .show pQ _ _ (kE _ b);rw[Br h];refine pQ.Gs λp q=>⟨rfl,?_⟩
  exact vH (BM hG.bd hr (aZ h) q)
 .exact(On h).symm
end
structure Can (T F:Nat) (f:FSt):Prop where
 ne:0<f.aA.length
 go:GO T F (oP f) (f.aA.length)
 eq:f=nt (oP f) (f.aA.length) 0
def can_mk {T F:Nat} {G:Gr} {N r:Nat} (hG:GO T F G N) (hr:r<N):Can T F (nt G N r):=
 ⟨US hG hr,can_go hG hr,(can_can hG hr).symm⟩
def nd_all {N:Nat} {o:List Nat} (D:o.Nodup) (B:∀x∈o,x<N) (I:N<=o.length) {i:Nat} (z:i<N):i∈o:=by
 apply eB;intro h;have q:(i::o).Nodup:=gC.2 ⟨h,D⟩;have:=yq q (N:=N) λx l=>by
  rcases aJ.1 l with rfl|l
  .exact z
  .exact B x l
 simp at this;omega
def asc_mem {T F:Nat} {f:FSt} (h:GO T F (oP f) (f.aA.length)) (i:Nat):CO (kE f i):=by
 by_cases l:i<f.aA.length
 .exact h.Ay i l
 .rw[Yo af];exact CO.nil
namespace Can
variable {T F:Nat} {f:FSt} (h:Can T F f)
include h
theorem bd:Bd (kE f) (f.aA.length):=h.go.bd
theorem Ay (i:Nat):CO (kE f i):=asc_mem h.go i
theorem met:Met (f.aA.length) (kB (oP f) (f.aA.length) 0):=vo h.go.bd h.ne
theorem olen:(kB (oP f) (f.aA.length) 0).length=f.aA.length:=by
 have:f.aA.length=(nt (oP f) f.aA.length 0).aA.length:=aP (λg:FSt=>g.aA.length) h.eq
 rw[JS] at this;exact this.symm
theorem omem {i:Nat} (l:i<f.aA.length):i∈kB (oP f) (f.aA.length) 0:=nd_all h.met.nd h.met.lt (by rw[h.olen];exact aU _) l
theorem Rf {i:Nat} (l:i<f.aA.length):sI (kE f) 0 i:=(IZ h.go.bd h.ne).1 (h.omem l)
theorem Uo {i:Nat} (l:sI (kE f) 0 i):i<f.aA.length:=l.lt h.bd h.ne
theorem oat {i:Nat} (D:sI (kE f) 0 i):(kB (oP f) (f.aA.length) 0)[i]? =some i:=by induction D with
 |root=>exact yw h.go.bd h.ne
 | @step n p K q L=>
  have l:=q;have e:kE f n=kE (nt (oP f) (f.aA.length) 0) n:=aP (λg=>kE g n) h.eq;rw[Br L] at e;have z:(p.1,(kB (oP f) (f.aA.length) 0).idxOf p.2)∈kE f n:=by rw[e];exact aD.2 ⟨p,q,rfl⟩
  have B:=(h.Ay n).Rc (a:=p.2) l z;have I:p.2∈kB (oP f) (f.aA.length) 0:=h.omem (h.bd n (h.Uo K) p l);have:=vH I;rw[<-B] at this;exact this
theorem ord:kB (oP f) (f.aA.length) 0=List.range (f.aA.length):=by
 apply kZ;intro i;by_cases l:i<f.aA.length
 .rw[h.oat (h.Rf l),uQ l]
 .rw[gM (by rw[h.olen];omega),gM (by simpa using l)]
theorem nn {x:Node} (l:x∈f.aA) {a:cD} (q:a∈x.cu):0<=a.To:=by rw[h.eq] at l;obtain⟨n,_,rfl⟩:=aD.1 l;obtain⟨p,_,rfl⟩:=aD.1 q;exact Int.natCast_nonneg _
end Can
structure TO (T:Nat) (sb:Int->Int->Prop):Prop where
 rl:∀{a b},sb a b->0<=a/\a<(T:Int)
 rr:∀{a b},sb a b->0<=b/\b<(T:Int)
 refl:∀{a},0<=a->a<(T:Int)->sb a a
 trans:∀{a b c},sb a b->sb b c->sb a c
 anti:∀{a b},sb a b->sb b a->a=b
 top:∀{a},0<=a->a<(T:Int)->sb 0 a
def F8 (sb:Int->Int->Prop) (G:Gr) (r:Nat) (H:Gr) (s:Nat) (m:Nat->Nat):Prop:=
 m r=s/\∀i,sI G.sc r i->sb (G.ty i) (H.ty (m i))/\∀p∈G.sc i,(p.1,m p.2)∈H.sc (m i)
def F8.Rf {sb:Int->Int->Prop} {G H:Gr} {r s:Nat} {m:Nat->Nat} (h:F8 sb G r H s m) {i:Nat} (l:sI G.sc r i):sI H.sc s (m i):=by induction l with
 |root=>rw[h.1];exact .root
 |step q z B=>exact B.step ((h.2 _ q).2 _ z)
def F8.comp {s1 s2 s3:Int->Int->Prop} (D:∀{a b c},s1 a b->s2 b c->s3 a c) {G H K:Gr} {r s t:Nat} {m z:Nat->Nat} (h:F8 s1 G r H s m) (q:F8 s2 H s K t z):F8 s3 G r K t (λi=>z (m i)):=
 ⟨by show z (m r)=t;rw[h.1,q.1],λi l=>⟨D (h.2 i l).1 (q.2 _ (h.Rf l)).1,λp B=>(q.2 _ (h.Rf l)).2 _ ((h.2 i l).2 p B)⟩⟩
def Le (sb:Int->Int->Prop) (f g:FSt):Prop:=∃m,F8 sb (oP f) 0 (oP g) 0 m
def F8.idG {sb:Int->Int->Prop} {G:Gr} {r:Nat} (h:∀i,sI G.sc r i->sb (G.ty i) (G.ty i)):F8 sb G r G r id:=⟨rfl,λi l=>⟨h i l,λp q=>q⟩⟩
section
variable {T F:Nat} {sb:Int->Int->Prop} (hT:TO T sb)
include hT
theorem Le.refl {f:FSt} (h:Can T F f):Le sb f f:=⟨id,F8.idG λi l=>hT.refl (h.go.tp i (h.Uo l)).1 (h.go.tp i (h.Uo l)).2⟩
theorem Le.trans {f g k:FSt} (h:Le sb f g) (l:Le sb g k):Le sb f k:=by obtain⟨m,h⟩:=h;obtain⟨q,l⟩:=l;exact⟨_,F8.comp (s1:=sb) (s2:=sb) (s3:=sb) (λh l=>hT.trans h l) h l⟩
theorem Le.anti {f g:FSt} (I:Can T F f) (K:Can T F g) (h:Le sb f g) (z:Le sb g f):f=g:=by
 obtain⟨m,h⟩:=h;obtain⟨V,z⟩:=z;have e1:∀i,sI (kE f) 0 i->V (m i)=i:=by have L:=F8.comp (s1:=sb) (s2:=sb) (s3:=sb) (λh z=>hT.trans h z) h z;intro i R;induction R with
  |root=>exact L.1
  | @step n p S D U=>have l:=(L.2 n S).2 p D;simp only[U] at l;exact((I.Ay n).Rc (a:=p.2) D l).symm
 have e2:∀i,sI (kE g) 0 i->m (V i)=i:=by have L:=F8.comp (s1:=sb) (s2:=sb) (s3:=sb) (λh z=>hT.trans h z) z h;intro i R;induction R with
  |root=>exact L.1
  | @step n p S D U=>have l:=(L.2 n S).2 p D;simp only[U] at l;exact((K.Ay n).Rc (a:=p.2) D l).symm
 rw[I.eq,K.eq];refine W5 (R:=λa b=>sI (kE f) 0 a/\m a=b) I.bd K.bd I.ne K.ne ?_ ?_ ?_ ⟨.root,h.1⟩
 .rintro a b a' b' ⟨B,rfl⟩ ⟨Q,rfl⟩;constructor
  .intro e;rw[e]
  .intro e;rw[<-e1 a B,<-e1 a' Q,e]
 .rintro a b ⟨B,rfl⟩;have hm:=h.Rf B;have e:kE g (m a)=(kE f a).map λp=>(p.1,m p.2):=by
   refine(CO.ext ((I.Ay a).map m) (K.Ay (m a)) λq=> ?_).symm;constructor
   .intro O;obtain⟨p,D,rfl⟩:=aD.1 O;exact(h.2 a B).2 p D
   .intro O;have l:=(z.2 _ hm).2 q O;rw[e1 a B] at l;refine aD.2 ⟨_,l,?_⟩;show(q.1,m (V q.2))=q;rw[e2 q.2 (hm.step O)]
  show pQ _ (kE f a) (kE g (m a));rw[e];exact pQ.Gs λp D=>⟨rfl,B.step D,rfl⟩
 .rintro a b ⟨B,rfl⟩;have l:=(z.2 _ (h.Rf B)).1;rw[e1 a B] at l;exact hT.anti (h.2 a B).1 l
end
section
variable {T F:Nat} {G:Gr} {N r:Nat} (hG:GO T F G N) (hr:r<N)
include hG hr
theorem hom_can {sb:Int->Int->Prop} (B:∀{a},0<=a->a<(T:Int)->sb a a):F8 sb G r (oP (nt G N r)) 0 (λi=>(kB G N r).idxOf i):=by
 refine⟨vU (vo hG.bd hr).nd (yw hG.bd hr),λi l=> ?_⟩;have q:=(IZ hG.bd hr).2 l;have:=hG.tp i (l.lt hG.bd hr);refine⟨?_,λp z=> ?_⟩
 .show sb _ (rE _ ((kB G N r).idxOf i));rw[On (vH q)];exact B this.1 this.2
 .show _∈kE _ ((kB G N r).idxOf i);rw[Br (vH q)];exact aD.2 ⟨p,z,rfl⟩
theorem can_hom {sb:Int->Int->Prop} (Q:∀{a},0<=a->a<(T:Int)->sb a a):F8 sb (oP (nt G N r)) 0 G r (λi=>(kB G N r).getD i r):=by
 have K:=yw hG.bd hr;refine⟨by show(kB G N r).getD 0 r=r;rw[bC,K];rfl,λi O=> ?_⟩;obtain⟨x,z⟩:=Om (O.lt (UR hG hr) (US hG hr));have D:=aZ z;have:=hG.tp x ((vo hG.bd hr).lt x D);have B:(kB G N r).getD i r=x:=by rw[bC,z];rfl
 refine⟨?_,λp l=> ?_⟩
 .show sb (rE _ _) (G.ty ((kB G N r).getD i r));rw[On z,B];exact Q this.1 this.2
 .have l:p∈kE (nt G N r) i:=l;rw[Br z] at l;obtain⟨q,I,rfl⟩:=aD.1 l;have L:=vH (BM hG.bd hr D I);show(q.1,(kB G N r).getD _ r)∈G.sc ((kB G N r).getD i r);rw[B,bC,L];exact I
end
