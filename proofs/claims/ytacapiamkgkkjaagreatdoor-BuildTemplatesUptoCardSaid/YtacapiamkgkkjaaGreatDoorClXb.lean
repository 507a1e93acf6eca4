/- READING. -/
import Derived.Test.YtacapiamkgkkjaaGreatDoorAmP
import Derived.Deep.Slices
import Derived.OpenShut
import Derived.Carry
import Derived.ProofKit
import Derived.Test.YtacapiamkgkkjaaGreatDoorClT
set_option linter.all false
namespace Go.AM
open Go.RowKit Go.ChangeShapes Go.WideShapes Go.ChangeAt
mutual
def AV.bulk:AV->Nat
 | .str s=>s.length+1
 | .dK _ xs=>AQ xs+1
 | .agg cs=>oJ cs
 | .bool _=>1
 | .int _ _=>1
 | .fn _ _=>1
 | .gy cs=>oJ cs
 | .ref _=>1
 | .mp _ _=>1
 | .self _=>1
 | .lY=>1
 | .ux=>1
 | .hole=>1
def oJ:List AV->Nat
 |[]=>0
 |a::l=>AV.bulk a+oJ l
def AQ:List (List AV)->Nat
 |[]=>0
 |c::l=>oJ c+AQ l
end
mutual
def AV.wf:AV->Prop
 | .str s=>s.length<=maxLen
 | .dK _ xs=>wfR xs
 | .agg cs=>ZE cs
 | .bool _=>True
 | .int k n=>(Lit.int k n).wf=true
 | .fn _ _=>True
 | .gy cs=>ZE cs
 | .ref _=>True
 | .mp _ _=>True
 | .self _=>True
 | .lY=>True
 | .ux=>True
 | .hole=>True
def ZE:List AV->Prop
 |[]=>True
 |a::l=>AV.wf a/\ZE l
def wfR:List (List AV)->Prop
 |[]=>True
 |c::l=>ZE c/\wfR l
end
def OT (a b:List AV):oJ (a++b)=oJ a+oJ b:=by induction a with
 |nil=>simp[oJ]
 |cons x a l=>simp only[gB,oJ,l];omega
def Xx {a b:List AV}:ZE (a++b)↔ZE a/\ZE b:=by induction a with
 |nil=>simp[ZE]
 |cons x a l=>simp only[gB,ZE,l,vj]
def wfR_all {l:List (List AV)} (h:∀c∈l,ZE c):wfR l:=by induction l with
 |nil=>trivial
 |cons c l z=>exact⟨h c ai,z λx q=>h x (by simp[q])⟩
def ZS {l:List (List AV)} {c:List AV} (q:c∈l):oJ c<=AQ l:=by induction l with
 |nil=>cases q
 |cons x l z=>
  simp only[AQ];rcases aJ.1 q with rfl|q
  .omega
  .have:=z q;omega
structure vU {H:Type} (bk:DataW H->Nat) (Vs:List (DataW H)->Nat):Prop where
 str:∀l,bk (.lit (.string l))=l.length+1
 lit:∀l,1<=bk (.lit l)
 nil:1<=bk .nil
 slice:∀e s,bk (.slice e s)=Vs e+Vs s+1
 agg:∀p,bk (.agg p)=Vs p+1
 nilA:Vs []=0
 ab5:∀d r,Vs (d::r)=bk d+Vs r
def muW (w:World):Mu:=λb j=>IM w b j
def pub_muW (w:World):Hz (muW w) w:=λ_ _ _ h=>h
section
variable {H:Type} {enc:TypeId×Value->H} {P:Program} {w:World} {bk:DataW H->Nat} {Vs:List (DataW H)->Nat}
def HA (enc:TypeId×Value->H) (P:Program) (w:World) (bk:DataW H->Nat) (n:Nat) (t:TypeId) (Q:List AV->Prop):Prop:=
 ∀q d z,DataW.trod enc P w 0 (λ_=>true) true n t q=some (d,z)->∃l,Q l/\mw (muW w) l q/\oJ l<=bk d/\ZE l
def HA.zero {t:TypeId} {Q:List AV->Prop}:HA enc P w bk 0 t Q:=λl d q h=>by simp[DataW.trod] at h
def HA.mono {n:Nat} {t:TypeId} {Q l:List AV->Prop} (h:HA enc P w bk n t Q) (I:∀a,Q a->l a):HA enc P w bk n t l:=λq d K D=>let⟨a,z,B⟩:=h q d K D;⟨a,I a z,B⟩
def rd_int (z:vU bk Vs) {n:Nat} {t:TypeId} {k:IntKind} (B:P.underlying t=some (.int k)):HA enc P w bk n t λl=>∃x,l=eC k x:=by
 intro I d K h;obtain⟨x,rfl,q,D⟩:=DataW.trod_int B h;simp only[ck] at q;obtain⟨rfl,rfl⟩:=q;refine⟨eC k x,⟨x,rfl⟩,⟨cC (by simp[rep]) dO,by simp[Value.oneCell']⟩,?_,?_⟩
 .simp only[eC,oJ,AV.bulk];exact z.lit _
 .exact⟨D,trivial⟩
def Ed (z:vU bk Vs) {n:Nat} {t:TypeId} (B:P.underlying t=some .string):HA enc P w bk n t λl=>∃x,l=jL x:=by
 intro D d K h;obtain⟨s,rfl,q,I⟩:=DataW.trod_string B h;simp only[ck] at q;obtain⟨rfl,rfl⟩:=q;refine⟨jL s.data.toList,⟨_,rfl⟩,⟨cC (by simp[rep]) dO,by simp[Value.oneCell']⟩,?_,?_⟩
 .simp only[jL,oJ,AV.bulk,z.str];omega
 .refine⟨?_,trivial⟩
  have:s.data.toList.length=s.size:=by rw[rW];rfl
  simp only[AV.wf];omega
def Na {D:Mu} {q b:Nat}:∀{xs:List (List AV)} {l:Nat},(∀i x,xs[i]? =some x->∃z,mw D x z/\z.length=q/\∀j u,z[j]? =some u->D b (l+i *q+j)=some u)->kV D q b xs l:=by intro xs;induction xs with
 |nil=>intro l _;simp[kV]
 |cons x xs Q=>intro l h;rw[kV];obtain⟨z,I,K,L⟩:=h 0 x rfl;refine⟨⟨z,I.1,I.2,K,λj u B=>by have:=L j u B;simpa using this⟩,Q λi y O=> ?_⟩;obtain⟨V,R,S,U⟩:=h (i+1) y (by simpa using O);refine⟨V,R,S,λj u B=> ?_⟩;have:=U j u B;rwa[show l+(i+1) *q+j=l+q+i *q+j from by rw[jE];omega] at this
def abN (z:vU bk Vs):∀(xs:List (List AV)) (l:List (DataW H)),xs.length=l.length->(∀(i:Nat) (x:List AV) (d:DataW H),xs[i]? =some x->l[i]? =some d->oJ x<=bk d)->AQ xs<=Vs l:=by intro xs;induction xs with
 |nil=>intro l _ _;simp[AQ]
 |cons x xs I=>intro l q h;cases l with
  |nil=>simp at q
  |cons d l=>
   rw[z.ab5];have K:=h 0 x d rfl rfl;have:=I l (by simpa using q) λi y e D B=>h (i+1) y e (by simpa using D) (by simpa using B)
   simp only[AQ];omega
def Uw (hB:vU bk Vs) {n:Nat} {t e:TypeId} {sz:Nat} (ht:P.underlying t=some (.slice e)) (hc:P.cellsOf e=sz) (hpos:0<sz) {Q:List AV->Prop} (he:HA enc P w bk n e Q):
  HA enc P w bk (n+1) t λavs=>∃xs,avs=[.dK sz xs]/\∀x∈xs,Q x:=by
 intro cs d ps h;rcases DataW.trod_slice ht h with⟨rfl,l⟩|⟨a,len,cap,elems,rest,n',hn,rfl,l,hb,hl,hm,hlen,hel,_,_⟩
 .simp only[ck] at l;obtain⟨rfl,rfl⟩:=l;refine⟨[.dK sz []],⟨[],rfl,ai⟩,⟨cC ?_ dO,by simp[Value.oneCell']⟩,?_,?_⟩
  .rw[rep];exact⟨none,0,rfl,aQ _,by simp[maxLen], .inl rfl⟩
  .simp only[oJ,AV.bulk,AQ];exact hB.nil
  .simp[ZE,AV.wf,wfR]
 .obtain rfl:n=n':=by omega
  simp only[ck] at l;obtain⟨rfl,rfl⟩:=l;have each:∀i,i<len->∃U:List AV,Q U/\∃z,w.cells? 0 (a.add (i *sz)) sz=some z/\mw (muW w) U z/\(∀x,elems[i]? =some x->oJ U<=bk x.1)/\ZE U:=by
   intro i D;have V:=hel i D;rw[hc] at V;obtain⟨x,l⟩:∃x,elems[i]? =some x:=⟨elems[i]'(by omega),aM af⟩
   rw[l] at V;obtain⟨z,B,O⟩:=dB.1 V;obtain⟨U,k1,k2,k3,k4⟩:=he z x.1 x.2 O;exact⟨U,k1,z,B,k2,λy hy=>by rw[l] at hy;injection hy with hy;subst hy;exact k3,k4⟩
  obtain⟨f,hf⟩:=Deep.choose_lt each;have K:∀i x,((List.range len).map f)[i]? =some x->i<len/\x=f i:=by intro i x l;simp only[dV,cu] at l;obtain⟨j,hj,rfl⟩:=l;obtain⟨V,B⟩:=bu.1 hj;simp at V B;subst B;exact⟨V,rfl⟩
  have L:∀x∈(List.range len).map f,∃i,i<len/\x=f i:=by intro x l;simp only[aG,gL] at l;obtain⟨i,D,rfl⟩:=l;exact⟨i,D,rfl⟩
  refine⟨[.dK sz ((List.range len).map f)],⟨_,rfl,λx l=> ?_⟩,⟨cC ?_ dO,by simp[Value.oneCell']⟩,?_,?_⟩
  .obtain⟨i,D,rfl⟩:=L x l;exact(hf i D).1
  .rw[rep];refine⟨some a,cap,by simp,by simpa using hl,hm,?_⟩;cases len with
   |zero=>exact .inl ai
   |succ len=>
    right;have I:a.spot=none:=by
     obtain⟨_,z,B,_⟩:=hf 0 af;simp only[World.cells?,cO,gj] at B;have O:=mapM_some_get B 0 0 (by simp[hpos]);have h4:z[0]? ≠none:=by have:=zw B;simp at this;intro R;rw[HI] at R;omega
     rw[<-O] at h4;simp only[Addr.add,xk,gj] at h4;cases hsp:a.spot with
     |none=>rfl
     |some q=>exfalso;apply h4;simp only[World.cell?,hsp];split<;>simp
    obtain⟨b,S,sp⟩:=a;simp only at I;subst I;refine⟨b,S,rfl,Na λi x l=> ?_⟩;obtain⟨D,rfl⟩:=K i x l;obtain⟨_,z,B,k2,_⟩:=hf i D;simp only[World.cells?,cO,gj] at B;refine⟨z,k2,by simpa using zw B,λj u hu=> ?_⟩;have hj:j<sz:=by have:=zw B;simp at this;have:=(bu.1 hu).1;omega
    have O:=mapM_some_get B j j (by simp[hj]);rw[hu,Deep.add_add] at O;unfold muW;have e:(⟨b,S,none⟩:Addr).add (i *sz+j)=⟨b,S+i *sz+j,none⟩:=by
     unfold Addr.add;split
     .rename_i h0;rw[kz,h0];rfl
     .simp[kz]
    rw[e] at O;exact xR O (k2.2 u (aP hu))
  .simp only[oJ,AV.bulk,hB.slice];have:=abN hB ((List.range len).map f) (elems.map (·.1)) (by simp[hlen]) λi x d l hd=>by
    obtain⟨D,rfl⟩:=K i x l;simp only[dV,cu] at hd;obtain⟨y,hy,rfl⟩:=hd;obtain⟨_,_,_,_,k,_⟩:=hf i D;exact k y hy
   omega
  .refine⟨wfR_all λx l=> ?_,trivial⟩;obtain⟨i,D,rfl⟩:=L x l;obtain⟨_,_,_,_,_,k⟩:=hf i D;exact k
def Cat:List (List AV->Prop)->List AV->Prop
 |[],l=>l=[]
 |Q::q,l=>∃a b,l=a++b/\Q a/\Cat q b
def Qe (P:Program):Nat->List Field->Bool
 |_,[]=>true
 |q,f::l=>Nat.beq f.offset q&&Qe P (q+P.cellsOf f.type) l
def Xn (P:Program):List Field->Nat
 |[]=>0
 |f::l=>P.cellsOf f.type+Xn P l
def abh (enc:TypeId×Value->H) (P:Program) (w:World) (bk:DataW H->Nat) (n:Nat):List Field->List (List AV->Prop)->Prop
 |[],[]=>True
 |f::l,Q::q=>HA enc P w bk n f.type Q/\abh enc P w bk n l q
 |_,_=>False
def aaU (hB:vU bk Vs) {n:Nat} {K:List Value}:∀(B:List Field) (q:List (List AV->Prop)) (xs:List (DataW H×List MemPlace)) (l:Nat),abh enc P w bk n B q->Qe P l B=true->xs.length=B.length->l+Xn P B<=K.length->
  (∀(i:Nat) (f:Field),B[i]? =some f->DataW.trod enc P w 0 (λ_=>true) true n f.type ((K.drop f.offset).take (P.cellsOf f.type))=xs[i]?)->
  ∃z,Cat q z/\mw (muW w) z ((K.drop l).take (Xn P B))/\oJ z<=Vs (xs.map (·.1))/\ZE z:=by
 intro B;induction B with
 |nil=>intro q xs l D _ L _ _;cases q with
  |nil=>exact⟨[],rfl,⟨by simp[Xn,cH],by simp[Xn]⟩,by simp[oJ],trivial⟩
  |cons Q q=>exact D.elim
 |cons f B ih=>intro q xs l D R L O hx;cases q with
  |nil=>exact D.elim
  |cons Q q=>cases xs with
   |nil=>simp at L
   |cons x xs=>
    simp only[Qe,aT] at R;have I:=beq_iff.1 R.1;simp only[Xn] at O⊢;have V:=hx 0 f rfl;rw[I] at V;obtain⟨S,q0,r0,b0,w0⟩:=D.1 _ x.1 x.2 V;obtain⟨U,q1,r1,b1,w1⟩:=ih q xs (l+P.cellsOf f.type) D.2 R.2 (by simpa using L) af λi g hg=>hx (i+1) g (by simpa using hg)
    refine⟨S++U,⟨S,U,rfl,q0,q1⟩,?_,?_,Xx.2 ⟨w0,w1⟩⟩
    .rw[List.take_add,List.drop_drop];exact r0.append r1
    .rw[OT,bM,hB.ab5];omega
def CG (I:vU bk Vs) {n:Nat} {t:TypeId} {l:Array Field} {Qs:List (List AV->Prop)} (U:P.underlying t=some (.struct l)) (R:Qe P 0 l.toList=true) (S:Xn P l.toList=P.cellsOf t)
  (L:abh enc P w bk n l.toList Qs):HA enc P w bk (n+1) t (Cat Qs):=by
 intro cs d ps h;obtain⟨xs,V,hn,K,Q,D,z⟩:=DataW.trod_struct U h;obtain rfl:n=V:=by omega
 simp only[ck] at K;obtain⟨rfl,rfl⟩:=K;obtain⟨B,q,r,b,wf⟩:=aaU I l.toList Qs xs 0 L R (by simpa using D) af λi f O=>z i f (by simpa using O)
 refine⟨B,q,?_,by rw[I.agg];omega,wf⟩;rw[S,<-Q] at r;simpa using r
def XG {t:TypeId} {v:Value} {d:DataW H} {R:List MemPlace} {Q:List AV->Prop} (O:v.cells= #[v]) (K:DataW.Trod enc P w 0 (λ_=>true) true t v d R) (I:∀n,HA enc P w bk n t Q):
  ∃a,Q [a]/\rep (muW w) a v/\a.bulk<=bk d/\a.wf:=by
 obtain⟨n,L⟩:=K;obtain⟨z,q,r,b,wf⟩:=I n _ _ _ L;rw[O] at r;have B:=r.length;cases z with
 |nil=>simp at B
 |cons a l=>cases l with
  |nil=>refine⟨a,q,?_,by simpa[oJ] using b,wf.1⟩;have:=r.1;rw[cH] at this;obtain⟨u,S,e,D,_⟩:=this;simp at e;rw[e.1];exact D
  |cons b l=>simp at B
end
def aay {P:Program} {H:Nat->Hint} {gT:eX} {q:Qp} {B:Mu} (L:Ea P=true) (D:∀f fn c,P.funcs[f]? =some fn->fn.body=some c->rV q B P (H f) fn.ntmps c) (z:iD q B P gT) {f:Nat} {avs:List AV} {us:List Value} {W:World} (hB:B.le (muW W)) (I:cH (muW W) avs us)
  (K:run P H gT f (avs.map .pv) []=some (.bool true,[])):Calls P f us.toArray W λe Q=>e= .returned (.bool true)/\Below W.heap.size W Q:=by
 have hs:∀{avs:List AV} {us:List Value},cH (muW W) avs us->iq (muW W) (λ_=> .bool false) (avs.map .pv) us:=by intro avs;induction avs with
  |nil=>intro us h;rw[cH] at h;subst h;rfl
  |cons a l ih=>intro us h;rw[cH] at h;obtain⟨u,O,rfl,V,h2⟩:=h;exact⟨u,O,rfl,V,ih h2⟩
 have:=(iD.noY (Om L D z f _ [] _ [] K W (muW W) (λ_=> .bool false) us hB (pub_muW W) (λid o h=>by cases h) (λi j oi oj h=>by cases h) (hs I)) λxs=>by simp[find]).2;refine this.mono ?_;rintro e Q ⟨v,μ',U,rfl,R⟩;have S:=R.pure rfl;rw[rep] at S;subst S;exact⟨rfl,ER R⟩
def DH {L:Type} {enc:TypeId×Value->L} {P:Program} (R:laidOutB P=true) {W O:World} (Q:Below W.heap.size W O):∀{B:List TypeId} {K:List Value} {D:List (DataW L)} {z:List MemPlace},(∀t∈B,P.readableRec t=true/\t<P.types.size)->
  (∀x∈z,x.block<W.heap.size)->DataW.TrodAll enc P W 0 (λ_=>true) true B K D z->DataW.TrodAll enc P O 0 (λb=>decide (b<W.heap.size)) true B K D z
 |[],[],[],_,_,_,h=>h
 |[],[],_::_,_,_,_,h=>h.elim
 |[],_::_,_,_,_,_,h=>by cases h
 |_::_,[],_,_,_,_,h=>by cases h
 |_::_,_::_,[],_,_,_,h=>h.elim
 |t::B,v::K,d::D,z,hr,l,h=>by obtain⟨p,q,S,U,rfl⟩:=h;exact⟨p,q,Below.trod R (hr t ai).1 (hr t ai).2 S Q (λx I=>l x (by simp[I])),DH R Q (λt V=>hr t (by simp[V])) (λx I=>l x (by simp[I])) U,rfl⟩
def Ch {B:Type} {enc:TypeId×Value->B} {P:Program} {W:World}:∀{z:List TypeId} {I:List Value} {l:List (DataW B)} {D:List MemPlace},DataW.TrodAll enc P W 0 (λ_=>true) true z I l D->l.length=z.length
 |[],[],[],_,_=>rfl
 |[],[],_::_,_,h=>h.elim
 |[],_::_,_,_,h=>by cases h
 |_::_,[],_,_,h=>by cases h
 |_::_,_::_,[],_,h=>h.elim
 |t::z,v::I,d::l,D,h=>by obtain⟨p,q,L,K,rfl⟩:=h;simp[Ch K]
def aaQ {Q:Type} {enc:TypeId×Value->Q} {P:Program} {fn:Func} {s:ChangeSpec} {tb:TypeId} {W W':World} {args:Array Value} {D R:List (DataW Q)} {before:List MemPlace} {l I z:Bool}
  (hl:laidOutB P=true) (L:fn.params.toList.all (λt=>P.readableRec t&&decide (t<P.types.size))=true) (B:s.vars=[]) (O:fn.resultTypes= #[tb]) (htb:P.underlying tb=some .bool)
  (hfn:∀D:List (DataW Q),D.length=fn.params.size->s.fn Q D={ results:=[.lit (.bool true)],args:=D })
  (U:DataW.Whole enc P fn.params.toList s.vars l W args.toList D R before) (hb:Below W.heap.size W W'):
  s.post enc P fn l I z false W args (.bool true) W':=by
 have hlt:=U.lt;have V:=U;obtain⟨p,q,hA,S,rfl,_,_⟩:=U;rw[B] at S;obtain⟨rfl,rfl⟩:R=[]/\q=[]:=by cases R with
  |nil=>exact⟨rfl,S⟩
  |cons g R=>exact S.elim
 have K:=Ch hA;have e:=hfn D (by rw[K,rW]);refine⟨D,[],p++[],[],p,[],V,?_,?_,?_,hb.frame _,λh=>by cases h⟩
 .rw[eP,e,O];exact trodAll_cons_mk (shut_bool htb _) trodAll_mk0
 .rw[eP,e];refine DH hl hb (λt ht=> ?_) (λx hx=>hlt x (by simp[hx])) hA;have:=cv.1 L t ht;simp only[aT,mH] at this;exact this
 .rw[eP,e,B];rfl
end Go.AM
namespace Go.Proofs.YtacapiamkgkkjaaGreatDoor.cl.pf
open Go Go.AM
def qf {q z:Type} (R:q->z->Prop):List q->List z->Prop
 |[],[]=>True
 |a::l,b::m=>R a b/\qf R l m
 |_,_=>False
def qf.append {B D:Type} {R:B->D->Prop}:∀{l q:List B} {m z:List D},qf R l m->qf R q z->qf R (l++q) (m++z)
 |[],_,[],_,_,h=>h
 |a::l,_,b::m,_,h,k=>⟨h.1,qf.append h.2 k⟩
 |[],_,_::_,_,h,_=>h.elim
 |_::_,_,[],_,h,_=>h.elim
def qf.map_eq {z B D:Type} {R:z->B->Prop} {f:z->D} {g:B->D} (q:∀a b,R a b->f a=g b):∀{l:List z} {m:List B},qf R l m->l.map f=m.map g
 |[],[],_=>rfl
 |a::l,b::m,h=>by simp only[bM,q a b h.1,qf.map_eq q h.2]
 |[],_::_,h=>h.elim
 |_::_,[],h=>h.elim
def qf.mem_iff {R:Nat->Nat->Prop} (D:∀{a b z B},R a b->R z B->(a=z↔b=B)) {a b:Nat} (q:R a b):∀{l m:List Nat},qf R l m->(a∈l↔b∈m)
 |[],[],_=>by simp
 |x::l,y::m,h=>by rw[aJ,aJ,qf.mem_iff D q h.2,D q h.1]
 |[],_::_,h=>h.elim
 |_::_,[],h=>h.elim
def qf.idx {R:Nat->Nat->Prop} (D:∀{a b z B},R a b->R z B->(a=z↔b=B)) {a b:Nat} (q:R a b):∀{l m:List Nat},qf R l m->l.idxOf a=m.idxOf b
 |[],[],_=>rfl
 |x::l,y::m,h=>by
  rw[vk,vk,qf.idx D q h.2];have:=D h.1 q;by_cases e:x=a
  .simp[e,this.1 e]
  .have I:y≠b:=λh=>e (this.2 h)
   simp[lE.2 e,lE.2 I]
 |[],_::_,h=>h.elim
 |_::_,[],h=>h.elim
def yR:∀{N:Nat} {o:List Nat},o.Nodup->(∀x∈o,x<N)->o.length<=N
 |0,o,_,h=>by cases o with
  |nil=>simp
  |cons x o=>have:=h x (by simp);omega
 |N+1,o,l,h=>by
  have B:(o.filter (· !=N)).Nodup:=l.filter _;have L:=yR (N:=N) B λx q=>by rw[dw] at q;have:=h x q.1;have:=qs.1 q.2;omega
  have D:∀{o:List Nat},o.Nodup->o.length<=(o.filter (· !=N)).length+1:=by intro o;induction o with
   |nil=>simp
   |cons x o K=>
    intro l;rw[gF] at l;by_cases e:x=N
    .subst e
     have:o.filter (· !=x)=o:=zl.2 λy I=>qs.2 λe=>l.1 (e▸I)
     simp[this]
    .have z:(x !=N)=true:=qs.2 e;have:=K l.2;simp only[oo,z,gj,bA];omega
  have:=D l;omega
structure Gr where
 sc:Nat->List (Int×Nat)
 ty:Nat->Int
def nZ (sc:Nat->List (Int×Nat)):Nat->Nat->List Nat->List Nat
 |0,_,o=>o
 |k+1,n,o=>if n∈o then o else(sc n).foldl (λo p=>nZ sc k p.2 o) (o++[n])
abbrev tq (sc:Nat->List (Int×Nat)) (k:Nat) (l:List (Int×Nat)) (o:List Nat):List Nat:=l.foldl (λo p=>nZ sc k p.2 o) o
def Bd (sc:Nat->List (Int×Nat)) (N:Nat):Prop:=∀n,n<N->∀p∈sc n,p.2<N
structure Met (N:Nat) (o:List Nat):Prop where
 nd:o.Nodup
 lt:∀x∈o,x<N
def Met.nil {N:Nat}:Met N []:=⟨qk,λ_ h=>by cases h⟩
def Met.snoc {N n:Nat} {o:List Nat} (h:Met N o) (D:n<N) (q:n∉o):Met N (o++[n]):=
 ⟨by
  rw[gW];exact⟨h.nd,by simp,λa B b z=>by simp at z;subst z;exact λe=>q (e▸B)⟩,λx l=>by
  rcases bf.1 l with l|l
  .exact h.lt x l
  .simp at l;subst l;exact D⟩
section
variable {sc:Nat->List (Int×Nat)} {N:Nat}
def JS:∀(k n:Nat) (o:List Nat),o<+:nZ sc k n o
 |0,_,o=>sA _
 |k+1,n,o=>by
  simp only[nZ];split
  .exact sA _
  .refine zx (List.prefix_append o [n]) ?_;generalize o++[n]=q;generalize sc n=l;induction l generalizing q with
   |nil=>exact sA _
   |cons p l z=>exact zx (JS k p.2 q) (z _)
def Cm (k:Nat):∀(l:List (Int×Nat)) (o:List Nat),o<+:tq sc k l o
 |[],o=>sA _
 |p::l,o=>zx (JS k p.2 o) (Cm k l _)
def AK (B:Bd sc N):∀(k n:Nat) (o:List Nat),Met N o->n<N->Met N (nZ sc k n o)
 |0,_,o,h,_=>h
 |k+1,n,o,h,I=>by
  simp only[nZ];split
  .exact h
  .rename_i z;have key:∀(l:List (Int×Nat)) (o:List Nat),(∀p∈l,p.2<N)->Met N o->Met N (tq sc k l o):=by
    intro l;induction l with
    |nil=>intro o _ h;exact h
    |cons p l L=>intro o D h;exact L _ (λq K=>D q (by simp[K])) (AK B k p.2 o h (D p ai))
   exact key _ _ (B n I) (h.snoc I z)
def JR (k n:Nat) (o:List Nat):o.length<=(nZ sc k n o).length:=(JS k n o).length_le
def U3 (z:Bd sc N):∀(k n:Nat) (o:List Nat),Met N o->n<N->N<k+o.length->nZ sc (k+1) n o=nZ sc k n o
 |0,n,o,h,D,B=>by have:=yR h.nd h.lt;omega
 |k+1,n,o,h,D,B=>by
  rw[nZ,nZ];split
  .rfl
  .rename_i I;have key:∀(l:List (Int×Nat)) (o:List Nat),(∀p∈l,p.2<N)->Met N o->N<k+o.length->tq sc (k+1) l o=tq sc k l o:=by
    intro l;induction l with
    |nil=>intro o _ _ _;rfl
    |cons p l Q=>intro o K h B;have L:=K p ai;simp only[tq,gA];rw[U3 z k p.2 o h L B];exact Q _ (λq O=>K q (by simp[O])) (AK z k p.2 o h L) (by have:=JR (sc:=sc) k p.2 o;omega)
   exact key _ _ (z n D) (h.snoc D I) (by simp only[bR,dY];omega)
def MD (l:Bd sc N) {k n:Nat} {o:List Nat} (h:Met N o) (q:n<N) (z:N<k+o.length):∀j,nZ sc (k+j) n o=nZ sc k n o
 |0=>rfl
 |j+1=>by rw[<-kz,U3 l (k+j) n o h q af,MD l h q z j]
def Zy (q:Bd sc N) {k j n:Nat} {o:List Nat} (h:Met N o) (z:n<N) (D:N<k+o.length) (B:N<j+o.length):nZ sc k n o=nZ sc j n o:=by
 rcases Nat.le_total k j with l|l
 .obtain⟨d,rfl⟩:=Nat.le.dest l;exact(MD q h z D d).symm
 .obtain⟨d,rfl⟩:=Nat.le.dest l;exact MD q h z B d
def AJ (S:Bd sc N):∀(k n:Nat) (o:List Nat),Met N o->n<N->N<k+o.length->n∈nZ sc k n o/\∀x∈nZ sc k n o,x∉o->∀p∈sc x,p.2∈nZ sc k n o
 |0,n,o,h,V,U=>by have:=yR h.nd h.lt;omega
 |k+1,n,o,h,V,U=>by
  rw[nZ];split
  .rename_i I;exact⟨I,λx K z=>absurd K z⟩
  .rename_i I;have key:∀(l:List (Int×Nat)) (o:List Nat),(∀p∈l,p.2<N)->Met N o->N<k+o.length->(∀p∈l,p.2∈tq sc k l o)/\∀x∈tq sc k l o,x∉o->∀p∈sc x,p.2∈tq sc k l o:=by
    intro l;induction l with
    |nil=>intro o _ _ _;exact⟨λp O=>by(cases O),λx K z=>absurd K z⟩
    |cons p l ih=>
     intro o hl h U;have O:=hl p ai;obtain⟨c1,c2⟩:=AJ S k p.2 o h O U;have hm:=AK S k p.2 o h O;have hlen:=JR (sc:=sc) k p.2 o;obtain⟨Q,R⟩:=ih (nZ sc k p.2 o) (λq D=>hl q (by simp[D])) hm af;have B:=Cm (sc:=sc) k l (nZ sc k p.2 o);refine⟨λq D=> ?_,λx K z q D=> ?_⟩
     .rcases aJ.1 D with rfl|D
      .exact B.subset c1
      .exact Q q D
     .by_cases L:x∈nZ sc k p.2 o
      .exact B.subset (c2 x L z q D)
      .exact R x K L q D
   obtain⟨Q,R⟩:=key (sc n) (o++[n]) (S n V) (h.snoc V I) (by simp only[bR,dY];omega);have B:=Cm (sc:=sc) k (sc n) (o++[n]);refine⟨B.subset ai,λx K z q D=> ?_⟩;by_cases e:x=n
   .subst e;exact Q q D
   .exact R x K (by simp[z,e]) q D
inductive tH (sc:Nat->List (Int×Nat)) (r:Nat):Nat->Prop where
 |root:tH sc r r
 |step {n:Nat} {p:Int×Nat}:tH sc r n->p∈sc n->tH sc r p.2
def ZA {r:Nat}:∀(k n:Nat) (o:List Nat),tH sc r n->∀x∈nZ sc k n o,x∉o->tH sc r x
 |0,n,o,_,x,B,z=>absurd B z
 |k+1,n,o,K,x,B,z=>by
  rw[nZ] at B;split at B
  .exact absurd B z
  .have key:∀(l:List (Int×Nat)) (o:List Nat),(∀p∈l,tH sc r p.2)->∀x∈tq sc k l o,x∉o->tH sc r x:=by
    intro l;induction l with
    |nil=>intro o _ x B z;exact absurd B z
    |cons p l Q=>
     intro o I x B z;by_cases D:x∈nZ sc k p.2 o
     .exact ZA k p.2 o (I p ai) x D z
     .exact Q _ (λq O=>I q (by simp[O])) x B D
   by_cases e:x=n
   .subst e;exact K
   .exact key _ _ (λp L=>K.step L) x B (by simp[z,e])
end
def kU (G:Gr) (N r:Nat):List Nat:=nZ G.sc (N+1) r []
def nU (G:Gr) (N r:Nat):FSt:=⟨(kU G N r).map λn=>⟨G.ty n,(G.sc n).map λp=>⟨p.1,((kU G N r).idxOf p.2:Nat)⟩⟩⟩
section
variable {G:Gr} {N r:Nat}
def vJ (l:Bd G.sc N) (hr:r<N):Met N (kU G N r):=AK l _ _ _ Met.nil hr
def aeV (l:Bd G.sc N) (hr:r<N):r∈kU G N r:=(AJ l (N+1) r [] Met.nil hr ai).1
def BV (l:Bd G.sc N) (hr:r<N) {x:Nat} (z:x∈kU G N r) {p:Int×Nat} (q:p∈G.sc x):p.2∈kU G N r:=(AJ l (N+1) r [] Met.nil hr ai).2 x z ai p q
def Js (l:Bd G.sc N) (hr:r<N) {x:Nat}:x∈kU G N r↔tH G.sc r x:=
 ⟨λh=>ZA _ _ _ .root x h ai,λh=>by induction h with
  |root=>exact aeV l hr
  |step _ q z=>exact BV l hr z q⟩
def yU (q:Bd G.sc N) (hr:r<N):(kU G N r)[0]? =some r:=by unfold kU;rw[nZ];simp only[mG,e8,dU];obtain⟨t,l⟩:=Cm (sc:=G.sc) N (G.sc r) [r];show(tq G.sc N (G.sc r) [r])[0]? =some r;rw[<-l];rfl
end
def Zz {L O:Nat->List (Int×Nat)} {R:Nat->Nat->Prop} (U:∀{a b Q S},R a b->R Q S->(a=Q↔b=S))
  (hs:∀a b,R a b->qf (λp q=>p.1=q.1/\R p.2 q.2) (L a) (O b)):∀(k a b:Nat) (z B:List Nat),R a b->qf R z B->qf R (nZ L k a z) (nZ O k b B)
 |0,a,b,z,B,_,D=>D
 |k+1,a,b,z,B,I,D=>by
  rw[nZ,nZ];have V:=qf.mem_iff U I D;by_cases h:a∈z
  .rw[aC h,aC (V.1 h)];exact D
  .rw[aA h,aA (λh'=>h (V.2 h'))];have key:∀(l m:List (Int×Nat)) (z B:List Nat),qf (λp q=>p.1=q.1/\R p.2 q.2) l m->qf R z B->qf R (tq L k l z) (tq O k m B):=by
    intro l;induction l with
    |nil=>intro m z B K D;cases m with
     |nil=>exact D
     |cons q m=>exact K.elim
    |cons p l ih=>intro m z B K D;cases m with
     |nil=>exact K.elim
     |cons q m=>exact ih m _ _ K.2 (Zz U hs k p.2 q.2 z B K.1.2 D)
   exact key _ _ _ _ (hs a b I) (D.append ⟨I,trivial⟩)
def XK {l z:Gr} {B D I K:Nat} (Q:Bd l.sc B) (S:Bd z.sc D) (h1:I<B) (h2:K<D) {R:Nat->Nat->Prop} (hR:∀{a b U V},R a b->R U V->(a=U↔b=V))
  (hs:∀a b,R a b->qf (λp q=>p.1=q.1/\R p.2 q.2) (l.sc a) (z.sc b)) (ht:∀a b,R a b->l.ty a=z.ty b) (hr:R I K):nU l B I=nU z D K:=by
 have e1:kU l B I=nZ l.sc (B+D+1) I []:=Zy Q Met.nil h1 ai aH;have e2:kU z D K=nZ z.sc (B+D+1) K []:=Zy S Met.nil h2 ai aH;have ho:qf R (kU l B I) (kU z D K):=by rw[e1,e2];exact Zz hR hs _ _ _ _ _ hr trivial
 unfold nU;congr 1;refine qf.map_eq (λa b L=> ?_) ho;rw[ht a b L];congr 1;exact qf.map_eq (λp q O=>by rw[O.1,qf.idx hR O.2 ho]) (hs a b L)
end Go.Proofs.YtacapiamkgkkjaaGreatDoor.cl.pf
namespace Go.Proofs.YtacapiamkgkkjaaGreatDoor.cl.pf
open Go Go.AM
def scN (x:Node):List (Int×Nat):=x.cn.map λa=>(a.bP,a.To.toNat)
def lU (f:FSt) (n:Nat):List (Int×Nat):=match f.az[n]? with
 |some x=>scN x
 |none=>[]
def tU (f:FSt) (n:Nat):Int:=match f.az[n]? with
 |some x=>x.eF
 |none=>0
def qS (f:FSt):Gr:=⟨lU f,tU f⟩
def CU (l:List (Int×Nat)):Prop:=l.Pairwise λp q=>p.1<q.1
def CU.RX {l:List (Int×Nat)} (h:CU l) {f:Int} {a b:Nat} (q:(f,a)∈l) (z:(f,b)∈l):a=b:=by induction l with
 |nil=>cases q
 |cons p l B=>
  have h:=c7.1 h;rcases aJ.1 q with q|q<;>rcases aJ.1 z with z|z
  .exact(Prod.mk.inj (q.trans z.symm)).2
  .have:=h.1 _ z;subst q;simp at this
  .have:=h.1 _ q;subst z;simp at this
  .exact B h.2 q z
theorem CU.ext:∀{l m:List (Int×Nat)},CU l->CU m->(∀p,p∈l↔p∈m)->l=m
 |[],[],_,_,_=>rfl
 |[],q::m,_,_,h=>absurd ((h q).2 ai) ai
 |p::l,[],_,_,h=>absurd ((h p).1 ai) ai
 |p::l,q::m,L,O,h=>by
  have z:=c7.1 L;have B:=c7.1 O;have e:p=q:=by
   rcases aJ.1 ((h p).1 ai) with e|D
   .exact e
   .rcases aJ.1 ((h q).2 ai) with e|K
    .exact e.symm
    .have:=B.1 _ D;have:=z.1 _ K;omega
  subst e;rw[CU.ext z.2 B.2 λx=> ?_];constructor
  .intro I;rcases aJ.1 ((h x).1 (by simp[I])) with e|D
   .have:=z.1 _ I;subst e;omega
   .exact D
  .intro I;rcases aJ.1 ((h x).2 (by simp[I])) with e|D
   .have:=B.1 _ I;subst e;omega
   .exact D
def CU.map {l:List (Int×Nat)} (h:CU l) (g:Nat->Nat):CU (l.map λp=>(p.1,g p.2)):=by unfold CU;rw[ic];exact h
def CU.nil:CU []:=List.Pairwise.nil
structure GO (T F:Nat) (G:Gr) (N:Nat):Prop where
 bd:Bd G.sc N
 zW:∀n,n<N->CU (G.sc n)
 ft:∀n,n<N->∀p∈G.sc n,0<=p.1/\p.1<(F:Int)
 tp:∀n,n<N->0<=G.ty n/\G.ty n<(T:Int)
def tH.lt {sc:Nat->List (Int×Nat)} {N r i:Nat} (l:Bd sc N) (hr:r<N) (h:tH sc r i):i<N:=by induction h with
 |root=>exact hr
 |step _ q z=>exact l _ z _ q
theorem Y8 {f:FSt} {n:Nat} (h:f.az.length<=n):lU f n=[]:=by unfold lU;rw[ig h]
def wX {f:FSt} {n:Nat} (h:n<f.az.length):lU f n=scN f.az[n]:=by unfold lU;rw[aM h]
theorem AI {f:FSt} {n:Nat} (h:n<f.az.length):tU f n=f.az[n].eF:=by unfold tU;rw[aM h]
def wE:∀{o:List Nat},o.Nodup->∀{i x:Nat},o[i]? =some x->o.idxOf x=i
 |[],_,i,x,h=>by simp at h
 |y::o,l,0,x,h=>by simp at h;subst h;simp
 |y::o,l,i+1,x,h=>by
  rw[gF] at l;rw[sB] at h;have q:x∈o:=aP h
  have:(y==x)=false:=lE.2 λe=>l.1 (e▸q)
  rw[vk,this,wE l.2 h];rfl
def vY:∀{o:List Nat} {x:Nat},x∈o->o[o.idxOf x]? =some x
 |y::o,x,h=>by
  rw[vk];by_cases e:y=x
  .subst e;simp
  .rw[lE.2 e];show(y::o)[o.idxOf x+1]? =some x;rw[sB];rcases aJ.1 h with h|h
   .exact absurd h.symm e
   .exact vY h
section
variable {G:Gr} {N r:Nat}
def XJ {i x:Nat} (h:(kU G N r)[i]? =some x):(nU G N r).az[i]? =some ⟨G.ty x,(G.sc x).map λp=>⟨p.1,((kU G N r).idxOf p.2:Nat)⟩⟩:=by show(List.map _ _)[i]? =_;rw[dV,h];rfl
def BD {i x:Nat} (h:(kU G N r)[i]? =some x):lU (nU G N r) i=(G.sc x).map λp=>(p.1,(kU G N r).idxOf p.2):=by unfold lU;rw[XJ h];simp only[scN,fF];rfl
def O2 {i x:Nat} (h:(kU G N r)[i]? =some x):tU (nU G N r) i=G.ty x:=by unfold tU;rw[XJ h]
def Ko:(nU G N r).az.length=(kU G N r).length:=by show(List.map _ _).length=_;simp
def O1 {i:Nat} (h:i<(nU G N r).az.length):∃x,(kU G N r)[i]? =some x:=by rw[Ko] at h;exact⟨_,aM h⟩
def idx_lt {o:List Nat} {x:Nat} (h:x∈o):o.idxOf x<o.length:=List.idxOf_lt_length_of_mem h
def qf.GM {z B:Type} {R:z->B->Prop} {g:z->B}:∀{l:List z},(∀p∈l,R p (g p))->qf R l (l.map g)
 |[],_=>trivial
 |p::l,h=>⟨h p ai,qf.GM λq D=>h q (by simp[D])⟩
variable {T F:Nat} (hG:GO T F G N) (hr:r<N)
include hG hr
theorem VD:Bd (lU (nU G N r)) ((nU G N r).az.length):=by intro i B p l;obtain⟨x,z⟩:=O1 B;rw[BD z] at l;obtain⟨q,D,rfl⟩:=aG.1 l;rw[Ko];exact idx_lt (BV hG.bd hr (aP z) D)
theorem can_go:GO T F (qS (nU G N r)) ((nU G N r).az.length):=by
 have l:∀{i x:Nat},(kU G N r)[i]? =some x->x<N:=λh=>(vJ hG.bd hr).lt _ (aP h)
 refine⟨VD hG hr,λi D=> ?_,λi D p B=> ?_,λi D=> ?_⟩<;>obtain⟨x,z⟩:=O1 D
 .show CU (lU _ i);rw[BD z];exact(hG.zW x (l z)).map λy=>(kU G N r).idxOf y
 .have B:p∈lU (nU G N r) i:=B;rw[BD z] at B;obtain⟨q,I,rfl⟩:=aG.1 B;exact hG.ft x (l z) q I
 .show 0<=tU _ i/\tU _ i<_;rw[O2 z];exact hG.tp x (l z)
theorem VE:0<(nU G N r).az.length:=by have:=aP (yU hG.bd hr);rw[Ko];exact zy this
theorem can_can:nU (qS (nU G N r)) ((nU G N r).az.length) 0=nU G N r:=by
 have nd:=(vJ hG.bd hr).nd;refine(XK (R:=λa b=>(kU G N r)[b]? =some a) hG.bd (VD hG hr) hr (VE hG hr) (λ{a b z B} h l=> ?_) (λa b h=> ?_) (λa b h=> ?_) (yU hG.bd hr)).symm
 .constructor
  .intro e;subst e;rw[<-wE nd h,<-wE nd l]
  .intro e;subst e;rw[h] at l;exact fc l
 .show qf _ _ (lU _ b);rw[BD h];refine qf.GM λp q=>⟨rfl,?_⟩
  exact vY (BV hG.bd hr (aP h) q)
 .exact(O2 h).symm
end
structure Can (T F:Nat) (f:FSt):Prop where
 ne:0<f.az.length
 go:GO T F (qS f) (f.az.length)
 eq:f=nU (qS f) (f.az.length) 0
def can_mk {T F:Nat} {G:Gr} {N r:Nat} (hG:GO T F G N) (hr:r<N):Can T F (nU G N r):=
 ⟨VE hG hr,can_go hG hr,(can_can hG hr).symm⟩
def nd_all {N:Nat} {o:List Nat} (D:o.Nodup) (B:∀x∈o,x<N) (I:N<=o.length) {i:Nat} (z:i<N):i∈o:=by
 apply eH;intro h;have q:(i::o).Nodup:=gF.2 ⟨h,D⟩;have:=yR q (N:=N) λx l=>by
  rcases aJ.1 l with rfl|l
  .exact z
  .exact B x l
 simp at this;omega
def asc_mem {T F:Nat} {f:FSt} (h:GO T F (qS f) (f.az.length)) (i:Nat):CU (lU f i):=by
 by_cases l:i<f.az.length
 .exact h.zW i l
 .rw[Y8 af];exact CU.nil
namespace Can
variable {T F:Nat} {f:FSt} (h:Can T F f)
include h
theorem bd:Bd (lU f) (f.az.length):=h.go.bd
theorem zW (i:Nat):CU (lU f i):=asc_mem h.go i
theorem met:Met (f.az.length) (kU (qS f) (f.az.length) 0):=vJ h.go.bd h.ne
theorem olen:(kU (qS f) (f.az.length) 0).length=f.az.length:=by
 have:f.az.length=(nU (qS f) f.az.length 0).az.length:=aU (λg:FSt=>g.az.length) h.eq
 rw[Ko] at this;exact this.symm
theorem omem {i:Nat} (l:i<f.az.length):i∈kU (qS f) (f.az.length) 0:=nd_all h.met.nd h.met.lt (by rw[h.olen];exact aQ _) l
theorem Uv {i:Nat} (l:i<f.az.length):tH (lU f) 0 i:=(Js h.go.bd h.ne).1 (h.omem l)
theorem rlt {i:Nat} (l:tH (lU f) 0 i):i<f.az.length:=l.lt h.bd h.ne
theorem oat {i:Nat} (D:tH (lU f) 0 i):(kU (qS f) (f.az.length) 0)[i]? =some i:=by induction D with
 |root=>exact yU h.go.bd h.ne
 | @step n p K q L=>
  have l:=q;have e:lU f n=lU (nU (qS f) (f.az.length) 0) n:=aU (λg=>lU g n) h.eq;rw[BD L] at e;have z:(p.1,(kU (qS f) (f.az.length) 0).idxOf p.2)∈lU f n:=by rw[e];exact aG.2 ⟨p,q,rfl⟩
  have B:=(h.zW n).RX (a:=p.2) l z;have I:p.2∈kU (qS f) (f.az.length) 0:=h.omem (h.bd n (h.rlt K) p l);have:=vY I;rw[<-B] at this;exact this
theorem ord:kU (qS f) (f.az.length) 0=List.range (f.az.length):=by
 apply lR;intro i;by_cases l:i<f.az.length
 .rw[h.oat (h.Uv l),vm l]
 .rw[ig (by rw[h.olen];omega),ig (by simpa using l)]
theorem nn {x:Node} (l:x∈f.az) {a:cD} (q:a∈x.cn):0<=a.To:=by rw[h.eq] at l;obtain⟨n,_,rfl⟩:=aG.1 l;obtain⟨p,_,rfl⟩:=aG.1 q;exact Int.natCast_nonneg _
end Can
structure TO (T:Nat) (sb:Int->Int->Prop):Prop where
 rl:∀{a b},sb a b->0<=a/\a<(T:Int)
 rr:∀{a b},sb a b->0<=b/\b<(T:Int)
 refl:∀{a},0<=a->a<(T:Int)->sb a a
 trans:∀{a b c},sb a b->sb b c->sb a c
 anti:∀{a b},sb a b->sb b a->a=b
 top:∀{a},0<=a->a<(T:Int)->sb 0 a
def Gp (sb:Int->Int->Prop) (G:Gr) (r:Nat) (H:Gr) (s:Nat) (m:Nat->Nat):Prop:=
 m r=s/\∀i,tH G.sc r i->sb (G.ty i) (H.ty (m i))/\∀p∈G.sc i,(p.1,m p.2)∈H.sc (m i)
def Gp.Uv {sb:Int->Int->Prop} {G H:Gr} {r s:Nat} {m:Nat->Nat} (h:Gp sb G r H s m) {i:Nat} (l:tH G.sc r i):tH H.sc s (m i):=by induction l with
 |root=>rw[h.1];exact .root
 |step q z B=>exact B.step ((h.2 _ q).2 _ z)
def Gp.comp {s1 s2 s3:Int->Int->Prop} (D:∀{a b c},s1 a b->s2 b c->s3 a c) {G H K:Gr} {r s t:Nat} {m z:Nat->Nat} (h:Gp s1 G r H s m) (q:Gp s2 H s K t z):Gp s3 G r K t (λi=>z (m i)):=
 ⟨by show z (m r)=t;rw[h.1,q.1],λi l=>⟨D (h.2 i l).1 (q.2 _ (h.Uv l)).1,λp B=>(q.2 _ (h.Uv l)).2 _ ((h.2 i l).2 p B)⟩⟩
def Le (sb:Int->Int->Prop) (f g:FSt):Prop:=∃m,Gp sb (qS f) 0 (qS g) 0 m
def Gp.idG {sb:Int->Int->Prop} {G:Gr} {r:Nat} (h:∀i,tH G.sc r i->sb (G.ty i) (G.ty i)):Gp sb G r G r id:=⟨rfl,λi l=>⟨h i l,λp q=>q⟩⟩
section
variable {T F:Nat} {sb:Int->Int->Prop} (hT:TO T sb)
include hT
theorem Le.refl {f:FSt} (h:Can T F f):Le sb f f:=⟨id,Gp.idG λi l=>hT.refl (h.go.tp i (h.rlt l)).1 (h.go.tp i (h.rlt l)).2⟩
theorem Le.trans {f g k:FSt} (h:Le sb f g) (l:Le sb g k):Le sb f k:=by obtain⟨m,h⟩:=h;obtain⟨q,l⟩:=l;exact⟨_,Gp.comp (s1:=sb) (s2:=sb) (s3:=sb) (λh l=>hT.trans h l) h l⟩
theorem Le.anti {f g:FSt} (I:Can T F f) (K:Can T F g) (h:Le sb f g) (z:Le sb g f):f=g:=by
 obtain⟨m,h⟩:=h;obtain⟨V,z⟩:=z;have e1:∀i,tH (lU f) 0 i->V (m i)=i:=by have L:=Gp.comp (s1:=sb) (s2:=sb) (s3:=sb) (λh z=>hT.trans h z) h z;intro i R;induction R with
  |root=>exact L.1
  | @step n p S D U=>have l:=(L.2 n S).2 p D;simp only[U] at l;exact((I.zW n).RX (a:=p.2) D l).symm
 have e2:∀i,tH (lU g) 0 i->m (V i)=i:=by have L:=Gp.comp (s1:=sb) (s2:=sb) (s3:=sb) (λh z=>hT.trans h z) z h;intro i R;induction R with
  |root=>exact L.1
  | @step n p S D U=>have l:=(L.2 n S).2 p D;simp only[U] at l;exact((K.zW n).RX (a:=p.2) D l).symm
 rw[I.eq,K.eq];refine XK (R:=λa b=>tH (lU f) 0 a/\m a=b) I.bd K.bd I.ne K.ne ?_ ?_ ?_ ⟨.root,h.1⟩
 .rintro a b a' b' ⟨B,rfl⟩ ⟨Q,rfl⟩;constructor
  .intro e;rw[e]
  .intro e;rw[<-e1 a B,<-e1 a' Q,e]
 .rintro a b ⟨B,rfl⟩;have hm:=h.Uv B;have e:lU g (m a)=(lU f a).map λp=>(p.1,m p.2):=by
   refine(CU.ext ((I.zW a).map m) (K.zW (m a)) λq=> ?_).symm;constructor
   .intro O;obtain⟨p,D,rfl⟩:=aG.1 O;exact(h.2 a B).2 p D
   .intro O;have l:=(z.2 _ hm).2 q O;rw[e1 a B] at l;refine aG.2 ⟨_,l,?_⟩;show(q.1,m (V q.2))=q;rw[e2 q.2 (hm.step O)]
  show qf _ (lU f a) (lU g (m a));rw[e];exact qf.GM λp D=>⟨rfl,B.step D,rfl⟩
 .rintro a b ⟨B,rfl⟩;have l:=(z.2 _ (h.Uv B)).1;rw[e1 a B] at l;exact hT.anti (h.2 a B).1 l
end
section
variable {T F:Nat} {G:Gr} {N r:Nat} (hG:GO T F G N) (hr:r<N)
include hG hr
theorem hom_can {sb:Int->Int->Prop} (B:∀{a},0<=a->a<(T:Int)->sb a a):Gp sb G r (qS (nU G N r)) 0 (λi=>(kU G N r).idxOf i):=by
 refine⟨wE (vJ hG.bd hr).nd (yU hG.bd hr),λi l=> ?_⟩;have q:=(Js hG.bd hr).2 l;have:=hG.tp i (l.lt hG.bd hr);refine⟨?_,λp z=> ?_⟩
 .show sb _ (tU _ ((kU G N r).idxOf i));rw[O2 (vY q)];exact B this.1 this.2
 .show _∈lU _ ((kU G N r).idxOf i);rw[BD (vY q)];exact aG.2 ⟨p,z,rfl⟩
theorem can_hom {sb:Int->Int->Prop} (Q:∀{a},0<=a->a<(T:Int)->sb a a):Gp sb (qS (nU G N r)) 0 G r (λi=>(kU G N r).getD i r):=by
 have K:=yU hG.bd hr;refine⟨by show(kU G N r).getD 0 r=r;rw[bD,K];rfl,λi O=> ?_⟩;obtain⟨x,z⟩:=O1 (O.lt (VD hG hr) (VE hG hr));have D:=aP z;have:=hG.tp x ((vJ hG.bd hr).lt x D);have B:(kU G N r).getD i r=x:=by rw[bD,z];rfl
 refine⟨?_,λp l=> ?_⟩
 .show sb (tU _ _) (G.ty ((kU G N r).getD i r));rw[O2 z,B];exact Q this.1 this.2
 .have l:p∈lU (nU G N r) i:=l;rw[BD z] at l;obtain⟨q,I,rfl⟩:=aG.1 l;have L:=vY (BV hG.bd hr D I);show(q.1,(kU G N r).getD _ r)∈G.sc ((kU G N r).getD i r);rw[B,bD,L];exact I
end
