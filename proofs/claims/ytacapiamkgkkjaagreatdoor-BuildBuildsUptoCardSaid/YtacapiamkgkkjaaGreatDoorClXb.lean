/- READING. -/
import Derived.Test.YtacapiamkgkkjaaGreatDoorAmP
import Derived.Deep.Slices
import Derived.OpenShut
import Derived.Carry
import Derived.ProofKit
import Derived.Test.YtacapiamkgkkjaaGreatDoorClT
set_option linter.all false
namespace Go.AM
open Go.RowKit Go.ChangeShapes Go.WideShapes Go.ChangeAt
mutual
def AV.bulk:AV->Nat
 | .str s=>s.length+1
 | .dy _ xs=>AQ xs+1
 | .agg cs=>mO cs
 | .bool _=>1
 | .int _ _=>1
 | .fn _ _=>1
 | .gM cs=>mO cs
 | .ref _=>1
 | .mp _ _=>1
 | .self _=>1
 | .qz=>1
 | .tH=>1
 | .hole=>1
def mO:List AV->Nat
 |[]=>0
 |a::l=>AV.bulk a+mO l
def AQ:List (List AV)->Nat
 |[]=>0
 |c::l=>mO c+AQ l
end
mutual
def AV.wf:AV->Prop
 | .str s=>s.length<=maxLen
 | .dy _ xs=>wfR xs
 | .agg cs=>VB cs
 | .bool _=>True
 | .int k n=>(Lit.int k n).wf=true
 | .fn _ _=>True
 | .gM cs=>VB cs
 | .ref _=>True
 | .mp _ _=>True
 | .self _=>True
 | .qz=>True
 | .tH=>True
 | .hole=>True
def VB:List AV->Prop
 |[]=>True
 |a::l=>AV.wf a/\VB l
def wfR:List (List AV)->Prop
 |[]=>True
 |c::l=>VB c/\wfR l
end
def Nq (a b:List AV):mO (a++b)=mO a+mO b:=by induction a with
 |nil=>simp[mO]
 |cons x a l=>simp only[fS,mO,l];omega
def VC {a b:List AV}:VB (a++b)↔VB a/\VB b:=by induction a with
 |nil=>simp[VB]
 |cons x a l=>simp only[fS,VB,l,gC]
def wfR_all {l:List (List AV)} (h:∀c∈l,VB c):wfR l:=by induction l with
 |nil=>trivial
 |cons c l z=>exact⟨h c ai,z λx q=>h x (by simp[q])⟩
def XU {l:List (List AV)} {c:List AV} (q:c∈l):mO c<=AQ l:=by induction l with
 |nil=>cases q
 |cons x l z=>
  simp only[AQ];rcases aI.1 q with rfl|q
  .omega
  .have:=z q;omega
structure vo {H:Type} (bk:DataW H->Nat) (TB:List (DataW H)->Nat):Prop where
 str:∀l,bk (.lit (.string l))=l.length+1
 lit:∀l,1<=bk (.lit l)
 nil:1<=bk .nil
 slice:∀e s,bk (.slice e s)=TB e+TB s+1
 agg:∀p,bk (.agg p)=TB p+1
 nilA:TB []=0
 ZV:∀d r,TB (d::r)=bk d+TB r
def muW (w:World):Mu:=λb j=>Hu w b j
def pub_muW (w:World):Lq (muW w) w:=λ_ _ _ h=>h
section
variable {H:Type} {enc:TypeId×Value->H} {P:Program} {w:World} {bk:DataW H->Nat} {TB:List (DataW H)->Nat}
def zU (enc:TypeId×Value->H) (P:Program) (w:World) (bk:DataW H->Nat) (n:Nat) (t:TypeId) (Q:List AV->Prop):Prop:=
 ∀q d z,DataW.trod enc P w 0 (λ_=>true) true n t q=some (d,z)->∃l,Q l/\lM (muW w) l q/\mO l<=bk d/\VB l
def zU.zero {t:TypeId} {Q:List AV->Prop}:zU enc P w bk 0 t Q:=λl d q h=>by simp[DataW.trod] at h
def zU.mono {n:Nat} {t:TypeId} {Q l:List AV->Prop} (h:zU enc P w bk n t Q) (I:∀a,Q a->l a):zU enc P w bk n t l:=λq d K D=>let⟨a,z,B⟩:=h q d K D;⟨a,I a z,B⟩
def OX (z:vo bk TB) {n:Nat} {t:TypeId} {k:IntKind} (B:P.underlying t=some (.int k)):zU enc P w bk n t λl=>∃x,l=dX k x:=by
 intro I d K h;obtain⟨x,rfl,q,D⟩:=DataW.trod_int B h;simp only[bD] at q;obtain⟨rfl,rfl⟩:=q;refine⟨dX k x,⟨x,rfl⟩,⟨cK (by simp[rep]) dM,by simp[Value.oneCell']⟩,?_,?_⟩
 .simp only[dX,mO,AV.bulk];exact z.lit _
 .exact⟨D,trivial⟩
def DA (z:vo bk TB) {n:Nat} {t:TypeId} (B:P.underlying t=some .string):zU enc P w bk n t λl=>∃x,l=oV x:=by
 intro D d K h;obtain⟨s,rfl,q,I⟩:=DataW.trod_string B h;simp only[bD] at q;obtain⟨rfl,rfl⟩:=q;refine⟨oV s.data.toList,⟨_,rfl⟩,⟨cK (by simp[rep]) dM,by simp[Value.oneCell']⟩,?_,?_⟩
 .simp only[oV,mO,AV.bulk,z.str];omega
 .refine⟨?_,trivial⟩
  have:s.data.toList.length=s.size:=by rw[tj];rfl
  simp only[AV.wf];omega
def LR {D:Mu} {q b:Nat}:∀{xs:List (List AV)} {l:Nat},(∀i x,xs[i]? =some x->∃z,lM D x z/\z.length=q/\∀j u,z[j]? =some u->D b (l+i *q+j)=some u)->lB D q b xs l:=by intro xs;induction xs with
 |nil=>intro l _;simp[lB]
 |cons x xs Q=>intro l h;rw[lB];obtain⟨z,I,K,L⟩:=h 0 x rfl;refine⟨⟨z,I.1,I.2,K,λj u B=>by have:=L j u B;simpa using this⟩,Q λi y O=> ?_⟩;obtain⟨V,R,S,U⟩:=h (i+1) y (by simpa using O);refine⟨V,R,S,λj u B=> ?_⟩;have:=U j u B;rwa[show l+(i+1) *q+j=l+q+i *q+j from by rw[jw];omega] at this
def ZD (z:vo bk TB):∀(xs:List (List AV)) (l:List (DataW H)),xs.length=l.length->(∀(i:Nat) (x:List AV) (d:DataW H),xs[i]? =some x->l[i]? =some d->mO x<=bk d)->AQ xs<=TB l:=by intro xs;induction xs with
 |nil=>intro l _ _;simp[AQ]
 |cons x xs I=>intro l q h;cases l with
  |nil=>simp at q
  |cons d l=>
   rw[z.ZV];have K:=h 0 x d rfl rfl;have:=I l (by simpa using q) λi y e D B=>h (i+1) y e (by simpa using D) (by simpa using B)
   simp only[AQ];omega
def EZ (hB:vo bk TB) {n:Nat} {t e:TypeId} {sz:Nat} (ht:P.underlying t=some (.slice e)) (hc:P.cellsOf e=sz) (hpos:0<sz) {Q:List AV->Prop} (he:zU enc P w bk n e Q):
  zU enc P w bk (n+1) t λavs=>∃xs,avs=[.dy sz xs]/\∀x∈xs,Q x:=by
 intro cs d ps h;rcases DataW.trod_slice ht h with⟨rfl,l⟩|⟨a,len,cap,elems,rest,n',hn,rfl,l,hb,hl,hm,hlen,hel,_,_⟩
 .simp only[bD] at l;obtain⟨rfl,rfl⟩:=l;refine⟨[.dy sz []],⟨[],rfl,ai⟩,⟨cK ?_ dM,by simp[Value.oneCell']⟩,?_,?_⟩
  .rw[rep];exact⟨none,0,rfl,aW _,by simp[maxLen], .inl rfl⟩
  .simp only[mO,AV.bulk,AQ];exact hB.nil
  .simp[VB,AV.wf,wfR]
 .obtain rfl:n=n':=by omega
  simp only[bD] at l;obtain⟨rfl,rfl⟩:=l;have each:∀i,i<len->∃U:List AV,Q U/\∃z,w.cells? 0 (a.add (i *sz)) sz=some z/\lM (muW w) U z/\(∀x,elems[i]? =some x->mO U<=bk x.1)/\VB U:=by
   intro i D;have V:=hel i D;rw[hc] at V;obtain⟨x,l⟩:∃x,elems[i]? =some x:=⟨elems[i]'(by omega),aN af⟩
   rw[l] at V;obtain⟨z,B,O⟩:=dx.1 V;obtain⟨U,k1,k2,k3,k4⟩:=he z x.1 x.2 O;exact⟨U,k1,z,B,k2,λy hy=>by rw[l] at hy;injection hy with hy;subst hy;exact k3,k4⟩
  obtain⟨f,hf⟩:=Deep.choose_lt each;have K:∀i x,((List.range len).map f)[i]? =some x->i<len/\x=f i:=by intro i x l;simp only[dP,cv] at l;obtain⟨j,hj,rfl⟩:=l;obtain⟨V,B⟩:=bP.1 hj;simp at V B;subst B;exact⟨V,rfl⟩
  have L:∀x∈(List.range len).map f,∃i,i<len/\x=f i:=by intro x l;simp only[aD,gp] at l;obtain⟨i,D,rfl⟩:=l;exact⟨i,D,rfl⟩
  refine⟨[.dy sz ((List.range len).map f)],⟨_,rfl,λx l=> ?_⟩,⟨cK ?_ dM,by simp[Value.oneCell']⟩,?_,?_⟩
  .obtain⟨i,D,rfl⟩:=L x l;exact(hf i D).1
  .rw[rep];refine⟨some a,cap,by simp,by simpa using hl,hm,?_⟩;cases len with
   |zero=>exact .inl ai
   |succ len=>
    right;have I:a.spot=none:=by
     obtain⟨_,z,B,_⟩:=hf 0 af;simp only[World.cells?,c4,fZ] at B;have O:=mapM_some_get B 0 0 (by simp[hpos]);have h4:z[0]? ≠none:=by have:=yJ B;simp at this;intro R;rw[GC] at R;omega
     rw[<-O] at h4;simp only[Addr.add,wz,fZ] at h4;cases hsp:a.spot with
     |none=>rfl
     |some q=>exfalso;apply h4;simp only[World.cell?,hsp];split<;>simp
    obtain⟨b,S,sp⟩:=a;simp only at I;subst I;refine⟨b,S,rfl,LR λi x l=> ?_⟩;obtain⟨D,rfl⟩:=K i x l;obtain⟨_,z,B,k2,_⟩:=hf i D;simp only[World.cells?,c4,fZ] at B;refine⟨z,k2,by simpa using yJ B,λj u hu=> ?_⟩;have hj:j<sz:=by have:=yJ B;simp at this;have:=(bP.1 hu).1;omega
    have O:=mapM_some_get B j j (by simp[hj]);rw[hu,Deep.add_add] at O;unfold muW;have e:(⟨b,S,none⟩:Addr).add (i *sz+j)=⟨b,S+i *sz+j,none⟩:=by
     unfold Addr.add;split
     .rename_i h0;rw[kS,h0];rfl
     .simp[kS]
    rw[e] at O;exact wW O (k2.2 u (bf hu))
  .simp only[mO,AV.bulk,hB.slice];have:=ZD hB ((List.range len).map f) (elems.map (·.1)) (by simp[hlen]) λi x d l hd=>by
    obtain⟨D,rfl⟩:=K i x l;simp only[dP,cv] at hd;obtain⟨y,hy,rfl⟩:=hd;obtain⟨_,_,_,_,k,_⟩:=hf i D;exact k y hy
   omega
  .refine⟨wfR_all λx l=> ?_,trivial⟩;obtain⟨i,D,rfl⟩:=L x l;obtain⟨_,_,_,_,_,k⟩:=hf i D;exact k
def Cat:List (List AV->Prop)->List AV->Prop
 |[],l=>l=[]
 |Q::q,l=>∃a b,l=a++b/\Q a/\Cat q b
def OG (P:Program):Nat->List Field->Bool
 |_,[]=>true
 |q,f::l=>Nat.beq f.offset q&&OG P (q+P.cellsOf f.type) l
def Vr (P:Program):List Field->Nat
 |[]=>0
 |f::l=>P.cellsOf f.type+Vr P l
def Zf (enc:TypeId×Value->H) (P:Program) (w:World) (bk:DataW H->Nat) (n:Nat):List Field->List (List AV->Prop)->Prop
 |[],[]=>True
 |f::l,Q::q=>zU enc P w bk n f.type Q/\Zf enc P w bk n l q
 |_,_=>False
def YS (hB:vo bk TB) {n:Nat} {K:List Value}:∀(B:List Field) (q:List (List AV->Prop)) (xs:List (DataW H×List MemPlace)) (l:Nat),Zf enc P w bk n B q->OG P l B=true->xs.length=B.length->l+Vr P B<=K.length->
  (∀(i:Nat) (f:Field),B[i]? =some f->DataW.trod enc P w 0 (λ_=>true) true n f.type ((K.drop f.offset).take (P.cellsOf f.type))=xs[i]?)->
  ∃z,Cat q z/\lM (muW w) z ((K.drop l).take (Vr P B))/\mO z<=TB (xs.map (·.1))/\VB z:=by
 intro B;induction B with
 |nil=>intro q xs l D _ L _ _;cases q with
  |nil=>exact⟨[],rfl,⟨by simp[Vr,cI],by simp[Vr]⟩,by simp[mO],trivial⟩
  |cons Q q=>exact D.elim
 |cons f B ih=>intro q xs l D R L O hx;cases q with
  |nil=>exact D.elim
  |cons Q q=>cases xs with
   |nil=>simp at L
   |cons x xs=>
    simp only[OG,aK] at R;have I:=beq_iff.1 R.1;simp only[Vr] at O⊢;have V:=hx 0 f rfl;rw[I] at V;obtain⟨S,q0,r0,b0,w0⟩:=D.1 _ x.1 x.2 V;obtain⟨U,q1,r1,b1,w1⟩:=ih q xs (l+P.cellsOf f.type) D.2 R.2 (by simpa using L) af λi g hg=>hx (i+1) g (by simpa using hg)
    refine⟨S++U,⟨S,U,rfl,q0,q1⟩,?_,?_,VC.2 ⟨w0,w1⟩⟩
    .rw[List.take_add,List.drop_drop];exact r0.append r1
    .rw[Nq,bu,hB.ZV];omega
def ri (I:vo bk TB) {n:Nat} {t:TypeId} {l:Array Field} {Qs:List (List AV->Prop)} (U:P.underlying t=some (.struct l)) (R:OG P 0 l.toList=true) (S:Vr P l.toList=P.cellsOf t)
  (L:Zf enc P w bk n l.toList Qs):zU enc P w bk (n+1) t (Cat Qs):=by
 intro cs d ps h;obtain⟨xs,V,hn,K,Q,D,z⟩:=DataW.trod_struct U h;obtain rfl:n=V:=by omega
 simp only[bD] at K;obtain⟨rfl,rfl⟩:=K;obtain⟨B,q,r,b,wf⟩:=YS I l.toList Qs xs 0 L R (by simpa using D) af λi f O=>z i f (by simpa using O)
 refine⟨B,q,?_,by rw[I.agg];omega,wf⟩;rw[S,<-Q] at r;simpa using r
def arg_agg {t:TypeId} {I:Array Field} {v:Value} {d:DataW H} {S:List MemPlace} {Q:List AV->Prop} {Tk:Reach} {z:Nat} (R:P.underlying t=some (.struct I)) (B:Value.okWide P w Tk z t v)
  (L:DataW.Trod enc P w 0 (λ_=>true) true t v d S) (K:∀n,zU enc P w bk n t Q):∃l,Q l/\rep (muW w) (.agg l) v/\mO l<=bk d/\VB l:=by
 obtain⟨D,rfl,_⟩:=WideShapes.okWide_struct R B;obtain⟨n,O⟩:=L;obtain⟨l,q,r,b,wf⟩:=K n _ _ _ O;refine⟨l,q,?_,b,wf⟩;rw[rep];exact⟨D.toList,by simp,by simpa[Value.cells] using r.1,by simpa[Value.cells] using r.2⟩
end
def Yz {P:Program} {H:Nat->Hint} {gL:eM} {q:Qp} {B:Mu} (L:Dx P=true) (D:∀f fn c,P.funcs[f]? =some fn->fn.body=some c->qV q B P (H f) fn.ntmps c) (z:iw q B P gL) {f:Nat} {avs:List AV} {us:List Value} {W:World} (hB:B.le (muW W)) (I:cI (muW W) avs us)
  (K:run P H gL f (avs.map .pv) []=some (.bool true,[])):Calls P f us.toArray W λe Q=>e= .returned (.bool true)/\Below W.heap.size W Q:=by
 have hs:∀{avs:List AV} {us:List Value},cI (muW W) avs us->ia (muW W) (λ_=> .bool false) (avs.map .pv) us:=by intro avs;induction avs with
  |nil=>intro us h;rw[cI] at h;subst h;rfl
  |cons a l ih=>intro us h;rw[cI] at h;obtain⟨u,O,rfl,V,h2⟩:=h;exact⟨u,O,rfl,V,ih h2⟩
 have:=(iw.noY (MY L D z f _ [] _ [] K W (muW W) (λ_=> .bool false) us hB (pub_muW W) (λid o h=>by cases h) (λi j oi oj h=>by cases h) (hs I)) λxs=>by simp[find]).2;refine this.mono ?_;rintro e Q ⟨v,μ',U,rfl,R⟩;have S:=R.pure rfl;rw[rep] at S;subst S;exact⟨rfl,D7 R⟩
def CX {L:Type} {enc:TypeId×Value->L} {P:Program} (R:laidOutB P=true) {W O:World} (Q:Below W.heap.size W O):∀{B:List TypeId} {K:List Value} {D:List (DataW L)} {z:List MemPlace},(∀t∈B,P.readableRec t=true/\t<P.types.size)->
  (∀x∈z,x.block<W.heap.size)->DataW.TrodAll enc P W 0 (λ_=>true) true B K D z->DataW.TrodAll enc P O 0 (λb=>decide (b<W.heap.size)) true B K D z
 |[],[],[],_,_,_,h=>h
 |[],[],_::_,_,_,_,h=>h.elim
 |[],_::_,_,_,_,_,h=>by cases h
 |_::_,[],_,_,_,_,h=>by cases h
 |_::_,_::_,[],_,_,_,h=>h.elim
 |t::B,v::K,d::D,z,hr,l,h=>by obtain⟨p,q,S,U,rfl⟩:=h;exact⟨p,q,Below.trod R (hr t ai).1 (hr t ai).2 S Q (λx I=>l x (by simp[I])),CX R Q (λt V=>hr t (by simp[V])) (λx I=>l x (by simp[I])) U,rfl⟩
def BI {B:Type} {enc:TypeId×Value->B} {P:Program} {W:World}:∀{z:List TypeId} {I:List Value} {l:List (DataW B)} {D:List MemPlace},DataW.TrodAll enc P W 0 (λ_=>true) true z I l D->l.length=z.length
 |[],[],[],_,_=>rfl
 |[],[],_::_,_,h=>h.elim
 |[],_::_,_,_,h=>by cases h
 |_::_,[],_,_,h=>by cases h
 |_::_,_::_,[],_,h=>h.elim
 |t::z,v::I,d::l,D,h=>by obtain⟨p,q,L,K,rfl⟩:=h;simp[BI K]
def YO {Q:Type} {enc:TypeId×Value->Q} {P:Program} {fn:Func} {s:ChangeSpec} {tb:TypeId} {W W':World} {args:Array Value} {D R:List (DataW Q)} {before:List MemPlace} {l I z:Bool}
  (hl:laidOutB P=true) (L:fn.params.toList.all (λt=>P.readableRec t&&decide (t<P.types.size))=true) (B:s.vars=[]) (O:fn.resultTypes= #[tb]) (htb:P.underlying tb=some .bool)
  (hfn:∀D:List (DataW Q),D.length=fn.params.size->s.fn Q D={ results:=[.lit (.bool true)],args:=D })
  (U:DataW.Whole enc P fn.params.toList s.vars l W args.toList D R before) (hb:Below W.heap.size W W'):
  s.post enc P fn l I z false W args (.bool true) W':=by
 have hlt:=U.lt;have V:=U;obtain⟨p,q,hA,S,rfl,_,_⟩:=U;rw[B] at S;obtain⟨rfl,rfl⟩:R=[]/\q=[]:=by cases R with
  |nil=>exact⟨rfl,S⟩
  |cons g R=>exact S.elim
 have K:=BI hA;have e:=hfn D (by rw[K,tj]);refine⟨D,[],p++[],[],p,[],V,?_,?_,?_,hb.frame _,λh=>by cases h⟩
 .rw[dN,e,O];exact trodAll_cons_mk (shut_bool htb _) trodAll_mk0
 .rw[dN,e];refine CX hl hb (λt ht=> ?_) (λx hx=>hlt x (by simp[hx])) hA;have:=cF.1 L t ht;simp only[aK,je] at this;exact this
 .rw[dN,e,B];rfl
end Go.AM
namespace Go.Proofs.YtacapiamkgkkjaaGreatDoor.cl.pf
open Go Go.AM
def pO {q z:Type} (R:q->z->Prop):List q->List z->Prop
 |[],[]=>True
 |a::l,b::m=>R a b/\pO R l m
 |_,_=>False
def pO.append {B D:Type} {R:B->D->Prop}:∀{l q:List B} {m z:List D},pO R l m->pO R q z->pO R (l++q) (m++z)
 |[],_,[],_,_,h=>h
 |a::l,_,b::m,_,h,k=>⟨h.1,pO.append h.2 k⟩
 |[],_,_::_,_,h,_=>h.elim
 |_::_,_,[],_,h,_=>h.elim
def pO.map_eq {z B D:Type} {R:z->B->Prop} {f:z->D} {g:B->D} (q:∀a b,R a b->f a=g b):∀{l:List z} {m:List B},pO R l m->l.map f=m.map g
 |[],[],_=>rfl
 |a::l,b::m,h=>by simp only[bu,q a b h.1,pO.map_eq q h.2]
 |[],_::_,h=>h.elim
 |_::_,[],h=>h.elim
def pO.mem_iff {R:Nat->Nat->Prop} (D:∀{a b z B},R a b->R z B->(a=z↔b=B)) {a b:Nat} (q:R a b):∀{l m:List Nat},pO R l m->(a∈l↔b∈m)
 |[],[],_=>by simp
 |x::l,y::m,h=>by rw[aI,aI,pO.mem_iff D q h.2,D q h.1]
 |[],_::_,h=>h.elim
 |_::_,[],h=>h.elim
def pO.idx {R:Nat->Nat->Prop} (D:∀{a b z B},R a b->R z B->(a=z↔b=B)) {a b:Nat} (q:R a b):∀{l m:List Nat},pO R l m->l.idxOf a=m.idxOf b
 |[],[],_=>rfl
 |x::l,y::m,h=>by
  rw[uG,uG,pO.idx D q h.2];have:=D h.1 q;by_cases e:x=a
  .simp[e,this.1 e]
  .have I:y≠b:=λh=>e (this.2 h)
   simp[jf.2 e,jf.2 I]
 |[],_::_,h=>h.elim
 |_::_,[],h=>h.elim
def x4:∀{N:Nat} {o:List Nat},o.Nodup->(∀x∈o,x<N)->o.length<=N
 |0,o,_,h=>by cases o with
  |nil=>simp
  |cons x o=>have:=h x (by simp);omega
 |N+1,o,l,h=>by
  have B:(o.filter (· !=N)).Nodup:=l.filter _;have L:=x4 (N:=N) B λx q=>by rw[cE] at q;have:=h x q.1;have:=kJ.1 q.2;omega
  have D:∀{o:List Nat},o.Nodup->o.length<=(o.filter (· !=N)).length+1:=by intro o;induction o with
   |nil=>simp
   |cons x o K=>
    intro l;rw[fM] at l;by_cases e:x=N
    .subst e
     have:o.filter (· !=x)=o:=yE.2 λy I=>kJ.2 λe=>l.1 (e▸I)
     simp[this]
    .have z:(x !=N)=true:=kJ.2 e;have:=K l.2;simp only[fV,z,fZ,bw];omega
  have:=D l;omega
structure Gr where
 sc:Nat->List (Int×Nat)
 ty:Nat->Int
def nx (sc:Nat->List (Int×Nat)):Nat->Nat->List Nat->List Nat
 |0,_,o=>o
 |k+1,n,o=>if n∈o then o else(sc n).foldl (λo p=>nx sc k p.2 o) (o++[n])
abbrev sC (sc:Nat->List (Int×Nat)) (k:Nat) (l:List (Int×Nat)) (o:List Nat):List Nat:=l.foldl (λo p=>nx sc k p.2 o) o
def Bd (sc:Nat->List (Int×Nat)) (N:Nat):Prop:=∀n,n<N->∀p∈sc n,p.2<N
structure Met (N:Nat) (o:List Nat):Prop where
 nd:o.Nodup
 lt:∀x∈o,x<N
def Met.nil {N:Nat}:Met N []:=⟨yD,λ_ h=>by cases h⟩
def Met.snoc {N n:Nat} {o:List Nat} (h:Met N o) (D:n<N) (q:n∉o):Met N (o++[n]):=
 ⟨by
  rw[iE];exact⟨h.nd,by simp,λa B b z=>by simp at z;subst z;exact λe=>q (e▸B)⟩,λx l=>by
  rcases bA.1 l with l|l
  .exact h.lt x l
  .simp at l;subst l;exact D⟩
section
variable {sc:Nat->List (Int×Nat)} {N:Nat}
def IJ:∀(k n:Nat) (o:List Nat),o<+:nx sc k n o
 |0,_,o=>rG _
 |k+1,n,o=>by
  simp only[nx];split
  .exact rG _
  .refine yK (List.prefix_append o [n]) ?_;generalize o++[n]=q;generalize sc n=l;induction l generalizing q with
   |nil=>exact rG _
   |cons p l z=>exact yK (IJ k p.2 q) (z _)
def BN (k:Nat):∀(l:List (Int×Nat)) (o:List Nat),o<+:sC sc k l o
 |[],o=>rG _
 |p::l,o=>yK (IJ k p.2 o) (BN k l _)
def zQ (B:Bd sc N):∀(k n:Nat) (o:List Nat),Met N o->n<N->Met N (nx sc k n o)
 |0,_,o,h,_=>h
 |k+1,n,o,h,I=>by
  simp only[nx];split
  .exact h
  .rename_i z;have key:∀(l:List (Int×Nat)) (o:List Nat),(∀p∈l,p.2<N)->Met N o->Met N (sC sc k l o):=by
    intro l;induction l with
    |nil=>intro o _ h;exact h
    |cons p l L=>intro o D h;exact L _ (λq K=>D q (by simp[K])) (zQ B k p.2 o h (D p ai))
   exact key _ _ (B n I) (h.snoc I z)
def II (k n:Nat) (o:List Nat):o.length<=(nx sc k n o).length:=(IJ k n o).length_le
def Ta (z:Bd sc N):∀(k n:Nat) (o:List Nat),Met N o->n<N->N<k+o.length->nx sc (k+1) n o=nx sc k n o
 |0,n,o,h,D,B=>by have:=x4 h.nd h.lt;omega
 |k+1,n,o,h,D,B=>by
  rw[nx,nx];split
  .rfl
  .rename_i I;have key:∀(l:List (Int×Nat)) (o:List Nat),(∀p∈l,p.2<N)->Met N o->N<k+o.length->sC sc (k+1) l o=sC sc k l o:=by
    intro l;induction l with
    |nil=>intro o _ _ _;rfl
    |cons p l Q=>intro o K h B;have L:=K p ai;simp only[sC,fO];rw[Ta z k p.2 o h L B];exact Q _ (λq O=>K q (by simp[O])) (zQ z k p.2 o h L) (by have:=II (sc:=sc) k p.2 o;omega)
   exact key _ _ (z n D) (h.snoc D I) (by simp only[cM,c8];omega)
def Lh (l:Bd sc N) {k n:Nat} {o:List Nat} (h:Met N o) (q:n<N) (z:N<k+o.length):∀j,nx sc (k+j) n o=nx sc k n o
 |0=>rfl
 |j+1=>by rw[<-kS,Ta l (k+j) n o h q af,Lh l h q z j]
def Xz (q:Bd sc N) {k j n:Nat} {o:List Nat} (h:Met N o) (z:n<N) (D:N<k+o.length) (B:N<j+o.length):nx sc k n o=nx sc j n o:=by
 rcases Nat.le_total k j with l|l
 .obtain⟨d,rfl⟩:=Nat.le.dest l;exact(Lh q h z D d).symm
 .obtain⟨d,rfl⟩:=Nat.le.dest l;exact Lh q h z B d
def zP (S:Bd sc N):∀(k n:Nat) (o:List Nat),Met N o->n<N->N<k+o.length->n∈nx sc k n o/\∀x∈nx sc k n o,x∉o->∀p∈sc x,p.2∈nx sc k n o
 |0,n,o,h,V,U=>by have:=x4 h.nd h.lt;omega
 |k+1,n,o,h,V,U=>by
  rw[nx];split
  .rename_i I;exact⟨I,λx K z=>absurd K z⟩
  .rename_i I;have key:∀(l:List (Int×Nat)) (o:List Nat),(∀p∈l,p.2<N)->Met N o->N<k+o.length->(∀p∈l,p.2∈sC sc k l o)/\∀x∈sC sc k l o,x∉o->∀p∈sc x,p.2∈sC sc k l o:=by
    intro l;induction l with
    |nil=>intro o _ _ _;exact⟨λp O=>by(cases O),λx K z=>absurd K z⟩
    |cons p l ih=>
     intro o hl h U;have O:=hl p ai;obtain⟨c1,c2⟩:=zP S k p.2 o h O U;have hm:=zQ S k p.2 o h O;have hlen:=II (sc:=sc) k p.2 o;obtain⟨Q,R⟩:=ih (nx sc k p.2 o) (λq D=>hl q (by simp[D])) hm af;have B:=BN (sc:=sc) k l (nx sc k p.2 o);refine⟨λq D=> ?_,λx K z q D=> ?_⟩
     .rcases aI.1 D with rfl|D
      .exact B.subset c1
      .exact Q q D
     .by_cases L:x∈nx sc k p.2 o
      .exact B.subset (c2 x L z q D)
      .exact R x K L q D
   obtain⟨Q,R⟩:=key (sc n) (o++[n]) (S n V) (h.snoc V I) (by simp only[cM,c8];omega);have B:=BN (sc:=sc) k (sc n) (o++[n]);refine⟨B.subset ai,λx K z q D=> ?_⟩;by_cases e:x=n
   .subst e;exact Q q D
   .exact R x K (by simp[z,e]) q D
inductive sV (sc:Nat->List (Int×Nat)) (r:Nat):Nat->Prop where
 |root:sV sc r r
 |step {n:Nat} {p:Int×Nat}:sV sc r n->p∈sc n->sV sc r p.2
def XB {r:Nat}:∀(k n:Nat) (o:List Nat),sV sc r n->∀x∈nx sc k n o,x∉o->sV sc r x
 |0,n,o,_,x,B,z=>absurd B z
 |k+1,n,o,K,x,B,z=>by
  rw[nx] at B;split at B
  .exact absurd B z
  .have key:∀(l:List (Int×Nat)) (o:List Nat),(∀p∈l,sV sc r p.2)->∀x∈sC sc k l o,x∉o->sV sc r x:=by
    intro l;induction l with
    |nil=>intro o _ x B z;exact absurd B z
    |cons p l Q=>
     intro o I x B z;by_cases D:x∈nx sc k p.2 o
     .exact XB k p.2 o (I p ai) x D z
     .exact Q _ (λq O=>I q (by simp[O])) x B D
   by_cases e:x=n
   .subst e;exact K
   .exact key _ _ (λp L=>K.step L) x B (by simp[z,e])
end
def kC (G:Gr) (N r:Nat):List Nat:=nx G.sc (N+1) r []
def nh (G:Gr) (N r:Nat):FSt:=⟨(kC G N r).map λn=>⟨G.ty n,(G.sc n).map λp=>⟨p.1,((kC G N r).idxOf p.2:Nat)⟩⟩⟩
section
variable {G:Gr} {N r:Nat}
def vf (l:Bd G.sc N) (hr:r<N):Met N (kC G N r):=zQ l _ _ _ Met.nil hr
def acw (l:Bd G.sc N) (hr:r<N):r∈kC G N r:=(zP l (N+1) r [] Met.nil hr ai).1
def Bk (l:Bd G.sc N) (hr:r<N) {x:Nat} (z:x∈kC G N r) {p:Int×Nat} (q:p∈G.sc x):p.2∈kC G N r:=(zP l (N+1) r [] Met.nil hr ai).2 x z ai p q
def Ib (l:Bd G.sc N) (hr:r<N) {x:Nat}:x∈kC G N r↔sV G.sc r x:=
 ⟨λh=>XB _ _ _ .root x h ai,λh=>by induction h with
  |root=>exact acw l hr
  |step _ q z=>exact Bk l hr z q⟩
theorem x7 (q:Bd G.sc N) (hr:r<N):(kC G N r)[0]? =some r:=by unfold kC;rw[nx];simp only[nF,eF,dS];obtain⟨t,l⟩:=BN (sc:=G.sc) N (G.sc r) [r];show(sC G.sc N (G.sc r) [r])[0]? =some r;rw[<-l];rfl
end
def XA {L O:Nat->List (Int×Nat)} {R:Nat->Nat->Prop} (U:∀{a b Q S},R a b->R Q S->(a=Q↔b=S))
  (hs:∀a b,R a b->pO (λp q=>p.1=q.1/\R p.2 q.2) (L a) (O b)):∀(k a b:Nat) (z B:List Nat),R a b->pO R z B->pO R (nx L k a z) (nx O k b B)
 |0,a,b,z,B,_,D=>D
 |k+1,a,b,z,B,I,D=>by
  rw[nx,nx];have V:=pO.mem_iff U I D;by_cases h:a∈z
  .rw[aB h,aB (V.1 h)];exact D
  .rw[aA h,aA (λh'=>h (V.2 h'))];have key:∀(l m:List (Int×Nat)) (z B:List Nat),pO (λp q=>p.1=q.1/\R p.2 q.2) l m->pO R z B->pO R (sC L k l z) (sC O k m B):=by
    intro l;induction l with
    |nil=>intro m z B K D;cases m with
     |nil=>exact D
     |cons q m=>exact K.elim
    |cons p l ih=>intro m z B K D;cases m with
     |nil=>exact K.elim
     |cons q m=>exact ih m _ _ K.2 (XA U hs k p.2 q.2 z B K.1.2 D)
   exact key _ _ _ _ (hs a b I) (D.append ⟨I,trivial⟩)
def VM {l z:Gr} {B D I K:Nat} (Q:Bd l.sc B) (S:Bd z.sc D) (h1:I<B) (h2:K<D) {R:Nat->Nat->Prop} (hR:∀{a b U V},R a b->R U V->(a=U↔b=V))
  (hs:∀a b,R a b->pO (λp q=>p.1=q.1/\R p.2 q.2) (l.sc a) (z.sc b)) (ht:∀a b,R a b->l.ty a=z.ty b) (hr:R I K):nh l B I=nh z D K:=by
 have e1:kC l B I=nx l.sc (B+D+1) I []:=Xz Q Met.nil h1 ai aH;have e2:kC z D K=nx z.sc (B+D+1) K []:=Xz S Met.nil h2 ai aH;have ho:pO R (kC l B I) (kC z D K):=by rw[e1,e2];exact XA hR hs _ _ _ _ _ hr trivial
 unfold nh;congr 1;refine pO.map_eq (λa b L=> ?_) ho;rw[ht a b L];congr 1;exact pO.map_eq (λp q O=>by rw[O.1,pO.idx hR O.2 ho]) (hs a b L)
end Go.Proofs.YtacapiamkgkkjaaGreatDoor.cl.pf
namespace Go.Proofs.YtacapiamkgkkjaaGreatDoor.cl.pf
open Go Go.AM
def Zb (x:Node):List (Int×Nat):=x.cu.map λa=>(a.bM,a.To.toNat)
def kY (f:FSt) (n:Nat):List (Int×Nat):=match f.az[n]? with
 |some x=>Zb x
 |none=>[]
def sU (f:FSt) (n:Nat):Int:=match f.az[n]? with
 |some x=>x.ee
 |none=>0
def qe (f:FSt):Gr:=⟨kY f,sU f⟩
def Cn (l:List (Int×Nat)):Prop:=l.Pairwise λp q=>p.1<q.1
def Cn.Qd {l:List (Int×Nat)} (h:Cn l) {f:Int} {a b:Nat} (q:(f,a)∈l) (z:(f,b)∈l):a=b:=by induction l with
 |nil=>cases q
 |cons p l B=>
  have h:=dO.1 h;rcases aI.1 q with q|q<;>rcases aI.1 z with z|z
  .exact(Prod.mk.inj (q.trans z.symm)).2
  .have:=h.1 _ z;subst q;simp at this
  .have:=h.1 _ q;subst z;simp at this
  .exact B h.2 q z
theorem Cn.ext:∀{l m:List (Int×Nat)},Cn l->Cn m->(∀p,p∈l↔p∈m)->l=m
 |[],[],_,_,_=>rfl
 |[],q::m,_,_,h=>absurd ((h q).2 ai) ai
 |p::l,[],_,_,h=>absurd ((h p).1 ai) ai
 |p::l,q::m,L,O,h=>by
  have z:=dO.1 L;have B:=dO.1 O;have e:p=q:=by
   rcases aI.1 ((h p).1 ai) with e|D
   .exact e
   .rcases aI.1 ((h q).2 ai) with e|K
    .exact e.symm
    .have:=B.1 _ D;have:=z.1 _ K;omega
  subst e;rw[Cn.ext z.2 B.2 λx=> ?_];constructor
  .intro I;rcases aI.1 ((h x).1 (by simp[I])) with e|D
   .have:=z.1 _ I;subst e;omega
   .exact D
  .intro I;rcases aI.1 ((h x).2 (by simp[I])) with e|D
   .have:=B.1 _ I;subst e;omega
   .exact D
def Cn.map {l:List (Int×Nat)} (h:Cn l) (g:Nat->Nat):Cn (l.map λp=>(p.1,g p.2)):=by unfold Cn;rw[kK];exact h
def Cn.nil:Cn []:=List.Pairwise.nil
structure GO (T F:Nat) (G:Gr) (N:Nat):Prop where
 bd:Bd G.sc N
 Aj:∀n,n<N->Cn (G.sc n)
 ft:∀n,n<N->∀p∈G.sc n,0<=p.1/\p.1<(F:Int)
 tp:∀n,n<N->0<=G.ty n/\G.ty n<(T:Int)
def sV.lt {sc:Nat->List (Int×Nat)} {N r i:Nat} (l:Bd sc N) (hr:r<N) (h:sV sc r i):i<N:=by induction h with
 |root=>exact hr
 |step _ q z=>exact l _ z _ q
theorem Xd {f:FSt} {n:Nat} (h:f.az.length<=n):kY f n=[]:=by unfold kY;rw[gu h]
def vW {f:FSt} {n:Nat} (h:n<f.az.length):kY f n=Zb f.az[n]:=by unfold kY;rw[aN h]
theorem zO {f:FSt} {n:Nat} (h:n<f.az.length):sU f n=f.az[n].ee:=by unfold sU;rw[aN h]
def vF:∀{o:List Nat},o.Nodup->∀{i x:Nat},o[i]? =some x->o.idxOf x=i
 |[],_,i,x,h=>by simp at h
 |y::o,l,0,x,h=>by simp at h;subst h;simp
 |y::o,l,i+1,x,h=>by
  rw[fM] at l;rw[rH] at h;have q:x∈o:=bf h
  have:(y==x)=false:=jf.2 λe=>l.1 (e▸q)
  rw[uG,this,vF l.2 h];rfl
def vp:∀{o:List Nat} {x:Nat},x∈o->o[o.idxOf x]? =some x
 |y::o,x,h=>by
  rw[uG];by_cases e:y=x
  .subst e;simp
  .rw[jf.2 e];show(y::o)[o.idxOf x+1]? =some x;rw[rH];rcases aI.1 h with h|h
   .exact absurd h.symm e
   .exact vp h
section
variable {G:Gr} {N r:Nat}
def VL {i x:Nat} (h:(kC G N r)[i]? =some x):(nh G N r).az[i]? =some ⟨G.ty x,(G.sc x).map λp=>⟨p.1,((kC G N r).idxOf p.2:Nat)⟩⟩:=by show(List.map _ _)[i]? =_;rw[dP,h];rfl
def AT {i x:Nat} (h:(kC G N r)[i]? =some x):kY (nh G N r) i=(G.sc x).map λp=>(p.1,(kC G N r).idxOf p.2):=by unfold kY;rw[VL h];simp only[Zb,fk];rfl
def Nz {i x:Nat} (h:(kC G N r)[i]? =some x):sU (nh G N r) i=G.ty x:=by unfold sU;rw[VL h]
def Jb:(nh G N r).az.length=(kC G N r).length:=by show(List.map _ _).length=_;simp
def Ny {i:Nat} (h:i<(nh G N r).az.length):∃x,(kC G N r)[i]? =some x:=by rw[Jb] at h;exact⟨_,aN h⟩
def idx_lt {o:List Nat} {x:Nat} (h:x∈o):o.idxOf x<o.length:=List.idxOf_lt_length_of_mem h
def pO.FX {z B:Type} {R:z->B->Prop} {g:z->B}:∀{l:List z},(∀p∈l,R p (g p))->pO R l (l.map g)
 |[],_=>trivial
 |p::l,h=>⟨h p ai,pO.FX λq D=>h q (by simp[D])⟩
variable {T F:Nat} (hG:GO T F G N) (hr:r<N)
include hG hr
theorem TR:Bd (kY (nh G N r)) ((nh G N r).az.length):=by intro i B p l;obtain⟨x,z⟩:=Ny B;rw[AT z] at l;obtain⟨q,D,rfl⟩:=aD.1 l;rw[Jb];exact idx_lt (Bk hG.bd hr (bf z) D)
theorem can_go:GO T F (qe (nh G N r)) ((nh G N r).az.length):=by
 have l:∀{i x:Nat},(kC G N r)[i]? =some x->x<N:=λh=>(vf hG.bd hr).lt _ (bf h)
 refine⟨TR hG hr,λi D=> ?_,λi D p B=> ?_,λi D=> ?_⟩<;>obtain⟨x,z⟩:=Ny D
 .show Cn (kY _ i);rw[AT z];exact(hG.Aj x (l z)).map λy=>(kC G N r).idxOf y
 .have B:p∈kY (nh G N r) i:=B;rw[AT z] at B;obtain⟨q,I,rfl⟩:=aD.1 B;exact hG.ft x (l z) q I
 .show 0<=sU _ i/\sU _ i<_;rw[Nz z];exact hG.tp x (l z)
theorem TT:0<(nh G N r).az.length:=by have:=bf (x7 hG.bd hr);rw[Jb];exact yL this
theorem can_can:nh (qe (nh G N r)) ((nh G N r).az.length) 0=nh G N r:=by
 have nd:=(vf hG.bd hr).nd;refine(VM (R:=λa b=>(kC G N r)[b]? =some a) hG.bd (TR hG hr) hr (TT hG hr) (λ{a b z B} h l=> ?_) (λa b h=> ?_) (λa b h=> ?_) (x7 hG.bd hr)).symm
 .constructor
  .intro e;subst e;rw[<-vF nd h,<-vF nd l]
  .intro e;subst e;rw[h] at l;exact fB l
 .show pO _ _ (kY _ b);rw[AT h];refine pO.FX λp q=>⟨rfl,?_⟩
  exact vp (Bk hG.bd hr (bf h) q)
 .exact(Nz h).symm
end
structure Can (T F:Nat) (f:FSt):Prop where
 ne:0<f.az.length
 go:GO T F (qe f) (f.az.length)
 eq:f=nh (qe f) (f.az.length) 0
def can_mk {T F:Nat} {G:Gr} {N r:Nat} (hG:GO T F G N) (hr:r<N):Can T F (nh G N r):=
 ⟨TT hG hr,can_go hG hr,(can_can hG hr).symm⟩
def nd_all {N:Nat} {o:List Nat} (D:o.Nodup) (B:∀x∈o,x<N) (I:N<=o.length) {i:Nat} (z:i<N):i∈o:=by
 apply ef;intro h;have q:(i::o).Nodup:=fM.2 ⟨h,D⟩;have:=x4 q (N:=N) λx l=>by
  rcases aI.1 l with rfl|l
  .exact z
  .exact B x l
 simp at this;omega
def asc_mem {T F:Nat} {f:FSt} (h:GO T F (qe f) (f.az.length)) (i:Nat):Cn (kY f i):=by
 by_cases l:i<f.az.length
 .exact h.Aj i l
 .rw[Xd af];exact Cn.nil
namespace Can
variable {T F:Nat} {f:FSt} (h:Can T F f)
include h
theorem bd:Bd (kY f) (f.az.length):=h.go.bd
theorem Aj (i:Nat):Cn (kY f i):=asc_mem h.go i
theorem met:Met (f.az.length) (kC (qe f) (f.az.length) 0):=vf h.go.bd h.ne
theorem olen:(kC (qe f) (f.az.length) 0).length=f.az.length:=by
 have:f.az.length=(nh (qe f) f.az.length 0).az.length:=aR (λg:FSt=>g.az.length) h.eq
 rw[Jb] at this;exact this.symm
theorem omem {i:Nat} (l:i<f.az.length):i∈kC (qe f) (f.az.length) 0:=nd_all h.met.nd h.met.lt (by rw[h.olen];exact aW _) l
theorem Tk {i:Nat} (l:i<f.az.length):sV (kY f) 0 i:=(Ib h.go.bd h.ne).1 (h.omem l)
theorem rlt {i:Nat} (l:sV (kY f) 0 i):i<f.az.length:=l.lt h.bd h.ne
theorem oat {i:Nat} (D:sV (kY f) 0 i):(kC (qe f) (f.az.length) 0)[i]? =some i:=by induction D with
 |root=>exact x7 h.go.bd h.ne
 | @step n p K q L=>
  have l:=q;have e:kY f n=kY (nh (qe f) (f.az.length) 0) n:=aR (λg=>kY g n) h.eq;rw[AT L] at e;have z:(p.1,(kC (qe f) (f.az.length) 0).idxOf p.2)∈kY f n:=by rw[e];exact aD.2 ⟨p,q,rfl⟩
  have B:=(h.Aj n).Qd (a:=p.2) l z;have I:p.2∈kC (qe f) (f.az.length) 0:=h.omem (h.bd n (h.rlt K) p l);have:=vp I;rw[<-B] at this;exact this
theorem ord:kC (qe f) (f.az.length) 0=List.range (f.az.length):=by
 apply kT;intro i;by_cases l:i<f.az.length
 .rw[h.oat (h.Tk l),uH l]
 .rw[gu (by rw[h.olen];omega),gu (by simpa using l)]
theorem nn {x:Node} (l:x∈f.az) {a:cB} (q:a∈x.cu):0<=a.To:=by rw[h.eq] at l;obtain⟨n,_,rfl⟩:=aD.1 l;obtain⟨p,_,rfl⟩:=aD.1 q;exact DS _
end Can
structure TO (T:Nat) (sb:Int->Int->Prop):Prop where
 rl:∀{a b},sb a b->0<=a/\a<(T:Int)
 rr:∀{a b},sb a b->0<=b/\b<(T:Int)
 refl:∀{a},0<=a->a<(T:Int)->sb a a
 trans:∀{a b c},sb a b->sb b c->sb a c
 anti:∀{a b},sb a b->sb b a->a=b
 top:∀{a},0<=a->a<(T:Int)->sb 0 a
def HF (sb:Int->Int->Prop) (G:Gr) (r:Nat) (H:Gr) (s:Nat) (m:Nat->Nat):Prop:=
 m r=s/\∀i,sV G.sc r i->sb (G.ty i) (H.ty (m i))/\∀p∈G.sc i,(p.1,m p.2)∈H.sc (m i)
def HF.Tk {sb:Int->Int->Prop} {G H:Gr} {r s:Nat} {m:Nat->Nat} (h:HF sb G r H s m) {i:Nat} (l:sV G.sc r i):sV H.sc s (m i):=by induction l with
 |root=>rw[h.1];exact .root
 |step q z B=>exact B.step ((h.2 _ q).2 _ z)
def HF.comp {s1 s2 s3:Int->Int->Prop} (D:∀{a b c},s1 a b->s2 b c->s3 a c) {G H K:Gr} {r s t:Nat} {m z:Nat->Nat} (h:HF s1 G r H s m) (q:HF s2 H s K t z):HF s3 G r K t (λi=>z (m i)):=
 ⟨by show z (m r)=t;rw[h.1,q.1],λi l=>⟨D (h.2 i l).1 (q.2 _ (h.Tk l)).1,λp B=>(q.2 _ (h.Tk l)).2 _ ((h.2 i l).2 p B)⟩⟩
def Le (sb:Int->Int->Prop) (f g:FSt):Prop:=∃m,HF sb (qe f) 0 (qe g) 0 m
def HF.idG {sb:Int->Int->Prop} {G:Gr} {r:Nat} (h:∀i,sV G.sc r i->sb (G.ty i) (G.ty i)):HF sb G r G r id:=⟨rfl,λi l=>⟨h i l,λp q=>q⟩⟩
section
variable {T F:Nat} {sb:Int->Int->Prop} (hT:TO T sb)
include hT
theorem Le.refl {f:FSt} (h:Can T F f):Le sb f f:=⟨id,HF.idG λi l=>hT.refl (h.go.tp i (h.rlt l)).1 (h.go.tp i (h.rlt l)).2⟩
theorem Le.trans {f g k:FSt} (h:Le sb f g) (l:Le sb g k):Le sb f k:=by obtain⟨m,h⟩:=h;obtain⟨q,l⟩:=l;exact⟨_,HF.comp (s1:=sb) (s2:=sb) (s3:=sb) (λh l=>hT.trans h l) h l⟩
theorem Le.anti {f g:FSt} (I:Can T F f) (K:Can T F g) (h:Le sb f g) (z:Le sb g f):f=g:=by
 obtain⟨m,h⟩:=h;obtain⟨V,z⟩:=z;have e1:∀i,sV (kY f) 0 i->V (m i)=i:=by have L:=HF.comp (s1:=sb) (s2:=sb) (s3:=sb) (λh z=>hT.trans h z) h z;intro i R;induction R with
  |root=>exact L.1
  | @step n p S D U=>have l:=(L.2 n S).2 p D;simp only[U] at l;exact((I.Aj n).Qd (a:=p.2) D l).symm
 have e2:∀i,sV (kY g) 0 i->m (V i)=i:=by have L:=HF.comp (s1:=sb) (s2:=sb) (s3:=sb) (λh z=>hT.trans h z) z h;intro i R;induction R with
  |root=>exact L.1
  | @step n p S D U=>have l:=(L.2 n S).2 p D;simp only[U] at l;exact((K.Aj n).Qd (a:=p.2) D l).symm
 rw[I.eq,K.eq];refine VM (R:=λa b=>sV (kY f) 0 a/\m a=b) I.bd K.bd I.ne K.ne ?_ ?_ ?_ ⟨.root,h.1⟩
 .rintro a b a' b' ⟨B,rfl⟩ ⟨Q,rfl⟩;constructor
  .intro e;rw[e]
  .intro e;rw[<-e1 a B,<-e1 a' Q,e]
 .rintro a b ⟨B,rfl⟩;have hm:=h.Tk B;have e:kY g (m a)=(kY f a).map λp=>(p.1,m p.2):=by
   refine(Cn.ext ((I.Aj a).map m) (K.Aj (m a)) λq=> ?_).symm;constructor
   .intro O;obtain⟨p,D,rfl⟩:=aD.1 O;exact(h.2 a B).2 p D
   .intro O;have l:=(z.2 _ hm).2 q O;rw[e1 a B] at l;refine aD.2 ⟨_,l,?_⟩;show(q.1,m (V q.2))=q;rw[e2 q.2 (hm.step O)]
  show pO _ (kY f a) (kY g (m a));rw[e];exact pO.FX λp D=>⟨rfl,B.step D,rfl⟩
 .rintro a b ⟨B,rfl⟩;have l:=(z.2 _ (h.Tk B)).1;rw[e1 a B] at l;exact hT.anti (h.2 a B).1 l
end
section
variable {T F:Nat} {G:Gr} {N r:Nat} (hG:GO T F G N) (hr:r<N)
include hG hr
theorem hom_can {sb:Int->Int->Prop} (B:∀{a},0<=a->a<(T:Int)->sb a a):HF sb G r (qe (nh G N r)) 0 (λi=>(kC G N r).idxOf i):=by
 refine⟨vF (vf hG.bd hr).nd (x7 hG.bd hr),λi l=> ?_⟩;have q:=(Ib hG.bd hr).2 l;have:=hG.tp i (l.lt hG.bd hr);refine⟨?_,λp z=> ?_⟩
 .show sb _ (sU _ ((kC G N r).idxOf i));rw[Nz (vp q)];exact B this.1 this.2
 .show _∈kY _ ((kC G N r).idxOf i);rw[AT (vp q)];exact aD.2 ⟨p,z,rfl⟩
theorem can_hom {sb:Int->Int->Prop} (Q:∀{a},0<=a->a<(T:Int)->sb a a):HF sb (qe (nh G N r)) 0 G r (λi=>(kC G N r).getD i r):=by
 have K:=x7 hG.bd hr;refine⟨by show(kC G N r).getD 0 r=r;rw[bq,K];rfl,λi O=> ?_⟩;obtain⟨x,z⟩:=Ny (O.lt (TR hG hr) (TT hG hr));have D:=bf z;have:=hG.tp x ((vf hG.bd hr).lt x D);have B:(kC G N r).getD i r=x:=by rw[bq,z];rfl
 refine⟨?_,λp l=> ?_⟩
 .show sb (sU _ _) (G.ty ((kC G N r).getD i r));rw[Nz z,B];exact Q this.1 this.2
 .have l:p∈kY (nh G N r) i:=l;rw[AT z] at l;obtain⟨q,I,rfl⟩:=aD.1 l;have L:=vp (Bk hG.bd hr D I);show(q.1,(kC G N r).getD _ r)∈G.sc ((kC G N r).getD i r);rw[B,bq,L];exact I
end
