/- The Closure laws. -/
import Derived.Test.YthphfjcnkinkpaaGreatDoorClK
import Derived.Test.YthphfjcnkinkpaaGreatDoorClT
set_option linter.all false
namespace Go.Proofs.YthphfjcnkinkpaaGreatDoor.cl
open Go Go.AM
def wO (l:List ck):ck:=(l.map λx=>38::x).flatten
def D4 (x:ck) (l:List ck):yQ [38] (x::l)=x++wO l:=by induction l generalizing x with
 |nil=>simp[yQ,wO]
 |cons y l q=>rw[show yQ _ _=x++[38]++yQ _ _ from rfl,q y];simp[wO]
def h55c (l:List ck) (F:l.length<=1048576) (w:∀x∈l,x.length<=1000):∀(xs:List ck) (i:Nat) (s:ck),l.drop i=xs->0<i->s.length<=1001 *i->G9 l s i=some (s++wO xs):=by intro xs;induction xs with
 |nil=>grind[V0,bp,wO]
 |cons x xs B=>intro i s h D G;refine V0 ?_;have q:=dY h;have z:=w x (aV (cr h));rw[aT h,au,cond_pos aH,bW aH,aK h,bW aH,aQ h af,B _ _ (aI h) af aH];simp[wO]
def c55c (l:List ck) (D:l.length<=1048576) (F:∀x∈l,x.length<=1000):G9 l [] 0=some (yQ [38] l):=by refine V0 ?_;cases q:l with
 |nil=>rfl
 |cons x xs=>have h:l.drop 0=x::xs:=q;rw[<-q];have B:((0:Nat):Int)=0:=rfl;have w:=aT h;have z:= @aK _ (List UInt8) _ _ _ _ h;rw[B] at w z;rw[w,au,cond_neg ai,z,bW (by grind)];have:=h55c l D F _ 1 ([]++x) (aI h) af (by grind);rw[q,D4,<-q];exact this
noncomputable def mQ (d:List aC) (w:Nat):List ck->List Nat->Nat->List ck->ck
 |s::ss,c::q,i,l=>if c=w then s else mQ d w ss q (i+1) (if w.testBit i=true then l++[s] else l)
 |_,_,_,l=>yQ [38] (wB d l)
def Tw {d:List aC} {l:List ck} {x:ck} (h:x∈wB d l):x∈l:=by have:=(cT.1 h).1;simp_all[gw]
theorem Tv {d:List aC} {l:List ck}:(wB d l).length<=l.length:=by refine fO (ve _ _) (fO (qo _) (ve _ _))
def subs_eq {c w:Nat} (l:c<18446744073709551616) (q:w<18446744073709551616):f102 (e1 c) (e1 w)=some (decide (c=w)):=by have z:=mM c;have B:=mM w;rw[c102 _ _ af af,aan (aeD l) (aeD q),Je,Je];grind[Vl]
def h55 {d:List aC} (z:Sz d) (A:Acc d) {all:List ck} {qs:List Nat} (O:qs.length=all.length) (S:all.length<=64) (K:∀x∈all,x.length<=1000) (H:∀c∈qs,c<18446744073709551616) {w:Nat} (Q:w<18446744073709551616):
  ∀(xs:List ck) (q:List Nat) (i:Nat) (l:List ck),all.drop i=xs->qs.drop i=q->i<=all.length->l.length<=i->(∀x∈l,x.length<=1000)->Uq d all (qs.map e1) (e1 w) i l=some (mQ d w xs q i l):=by
 intro xs;induction xs with
 |nil=>
  intro q i l h B F D L;refine k55_3 ?_;have U:=mI h;have N:q=[]:=by rw[<-B];exact rR af
  subst N;rw[bp h,aA,c104 z A l af];simp only[aj];rw[c55c _ (by grind[Tv]) (λx I=>L x (Tw I))];rfl
 |cons x xs R=>intro q i l h B F D L;refine k55_3 ?_;have P:=dY h;cases q with
  |nil=>have:=mI B;omega
  |cons c q=>
   have I:(qs.map e1).drop i=e1 c::q.map e1:=by rw[<-pV,B];rfl
   rw[aT h,au,aK I,subs_eq (H c (aV (cr B))) Q,aj,aK h,c103 Q af,aK h,aQ h af];show _=some (if c=w then x else mQ d w _ _ _ _);by_cases e:c=w
   .simp_all
   .rw[cond_neg (by simp_all),az e];cases V:w.testBit i with
    |true=>
     rw[cC _ af ai af,R _ _ _ (aI h) (aI B) af aH (λy G=>by
      rcases bu.1 G with G|G
      .simp_all
      .simp at G;subst G;exact K y (aV (cr h)))]
     simp
    |false=>rw[R _ _ _ (aI h) (aI B) af af L];simp
noncomputable def Fs (d:List aC) (all:List ck) (qs:List Nat) (w:Nat):ck:=mQ d w all qs 0 []
def c55 {d:List aC} (z:Sz d) (A:Acc d) {all:List ck} {qs:List Nat} (l:qs.length=all.length) (q:all.length<=64) (D:∀x∈all,x.length<=1000) (B:∀c∈qs,c<18446744073709551616) {w:Nat} (F:w<18446744073709551616):
  f55 d all (qs.map e1) (e1 w)=some (Fs d all qs w):=e55 (h55 z A l q D B F _ _ 0 _ rfl rfl af ai (λx G=>by cases G))
abbrev Ep:=ck×Nat
def IQ (p:Ep):fL:=⟨p.1,e1 p.2⟩
def Fo (p q:Ep):Bool:=decide (pc p.2>pc q.2)||(decide (pc p.2=pc q.2)&&Op.bytesLess p.1 q.1)
def c56 {p q:Ep} (l:p.2<18446744073709551616) (w:q.2<18446744073709551616):f56 (IQ p) (IQ q)=some (Fo p q):=by
 refine e56 ?_;show Option.bind (f105 (e1 _)) _=_;rw[c105 l];show Option.bind (f105 (e1 _)) _=_;rw[c105 w];unfold Fo;by_cases z:pc p.2>pc q.2
 .simp_all
 .by_cases B:pc p.2=pc q.2
  .simp_all[IQ]
  grind
theorem Jb {p q:Ep}:Fo p q=true↔pc p.2>pc q.2\/(pc p.2=pc q.2/\Op.bytesLess p.1 q.1=true):=by simp[Fo]
def ND (p q:Ep) (h:Fo p q=true):Fo q p=false:=by grind[Jb,BH]
theorem Wf (x y z:Ep) (h:Fo x y=true) (l:Fo z y=false):Fo x z=true:=by
 rw[Jb] at h⊢;have D:¬(pc z.2>pc y.2\/(pc z.2=pc y.2/\Op.bytesLess z.1 y.1=true)):=λB=>by grind[Jb]
 rcases h with h|⟨q,w⟩
 .omega
 .by_cases e:pc z.2=pc y.2
  .grind[vS,BI]
  omega
theorem ZO {q:Type} (lt:q->q->Bool) (x:q):∀l:List q,(sj lt x l).Perm (x::l):=by intro l;induction l with
 |nil=>rfl
 |cons y l w=>
  unfold sj;split
  .rfl
  .exact(w.cons y).trans (.swap x y l)
def h15c {d:List aC} {all:List ck} {l f:List (List Int)} {E:List Ep} {p:Ep} {i:Nat} (N:mK Fo E) (H:∀q∈E,q.2<18446744073709551616) (Q:p.2<18446744073709551616) (O:E.length<=1048576) (U:i<=1048576):
  ∀(v:Nat),v<=E.length->(∀q∈E.drop v,Fo p q=true)->∀r,Ei d all l f ((sj Fo p E).map IQ) (i+1:Nat)=some r->Qr d all l f (E.map IQ) i v (IQ p)=some r:=by
 have z:∀(v:Nat),v<=E.length->(∀q∈E.take v,Fo p q=false)->(∀q∈E.drop v,Fo p q=true)->
   (((([]:List fL)++(((E.map IQ).take (Int.toNat (v:Int))).drop 0))++[IQ p])++(((E.map IQ).take (List.length (E.map IQ))).drop (Int.toNat (v:Int))))=(sj Fo p E).map IQ:=by
  intro v I K L;have:=VI Fo K L;rw[nK] at this;rw[this,gp];simp
 intro v;induction v with
 |zero=>intro I h r G;refine acu ?_;rw[<-z 0 af ai h] at G;rw[cond_neg ai,bW ai,bW ai,bW ai,bW ai,bW aH,bM af];omega
 |succ v R=>
  intro I h r G;refine acu ?_;have w:v<E.length:=af;have B:(E.map IQ)[v]? =some (IQ E[v]):=by rw[dA,aM w];rfl
  rw[cond_pos ai,qq af,iI B,c56 Q (H _ (bU w)),aj];cases S:Fo p E[v] with
  |true=>rw[au];refine R af ?_ r G;intro q F;rw[iW w] at F;grind
  |false=>
   have D:∀q∈E.take (v+1),Fo p q=false:=by
    intro q F;rw[vc] at F;obtain⟨k,V,rfl⟩:=F;by_cases P:k=v
    .simp_all
    .have hs:Fo E[v] E[k]=false:=by
      have:=nM.1 N k v af w af;exact this
     grind[Wf]
   rw[<-z _ af D h] at G;rw[aA,bW aH,bW aH,bW aH,bW aH,bW aH,bM af];omega
def Zz {E:List Ep} {l:List Ep} (q:mK Fo E):mK Fo (l.foldl (λE p=>sj Fo p E) E)/\(l.foldl (λE p=>sj Fo p E) E).Perm (E++l):=by induction l generalizing E with
 |nil=>simp_all
 |cons p l w=>obtain⟨z,B⟩:=w (BY _ ND Wf q (x:=p));grind[ZO]
def h15b {d:List aC} (z:Sz d) (A:Acc d) {all:List ck} {qs F:List Nat} (B:qs.length=all.length) (G:all.length<=64) (K:∀x∈all,x.length<=1000) (H:∀c∈qs,c<18446744073709551616)
  (Q:∀w∈F,w<18446744073709551616) (R:F.length<=1000):∀(xs:List Nat) (i:Nat) (E:List Ep),F.drop i=xs->E.length<=i->i<=F.length->mK Fo E->(∀q∈E,q.2<18446744073709551616)->
  Ei d all (qs.map e1) (F.map e1) (E.map IQ) i=some (((xs.map λw=>((Fs d all qs w,w):Ep)).foldl (λE p=>sj Fo p E) E).map IQ,0):=by
 intro xs;induction xs with
 |nil=>grind[acs,e1,List.map_drop,bp]
 |cons w xs U=>
  intro i E h P V N S;refine acs ?_;have O:=dY h;have I:(F.map e1).drop i=e1 w::xs.map e1:=by rw[<-pV,h];rfl
  have L:=Q w (aV (cr h));rw[aT I,au,aK I,c55 z A B G K H L,aj,aK I];have l:((E.map IQ).length)=((E.length)):=by simp
  rw[l];refine h15c (p:=(Fs d _ _ w,w)) N S L af af _ (aR _) ai _ ?_;refine U _ _ (aI h) (by rw[Ta];omega) af (BY _ ND Wf N) ?_;intro q D;rcases(Tb _).1 D with rfl|D
  .exact L
  grind
abbrev iH (d:List aC):List ck:=oJ (kz d)
noncomputable def qs (d:List aC):List Nat:=(iH d).map (cw d (iH d))
noncomputable def eL (d:List aC):List Ep:=((Bo (qs d)).map λw=>((Fs d (iH d) (qs d) w,w):Ep)).foldl (λE p=>sj Fo p E) []
theorem oS {d:List aC}:(iH d).length<=d.length:=by have:=qo (kz d);simp_all
def DV {d:List aC} (h:d.length<=64):∀c∈qs d,c<18446744073709551616:=by intro c l;obtain⟨x,_,rfl⟩:=aD.1 l;grind[abn,oS]
def h15a {d:List aC} (z:Sz d) (h:d.length<=64) {r:(List fL×Int)}
  (I:(bif(decide ((((Bo (qs d)).map e1).length:Int)>256)) then(some (([]:List fL),(7:Int))) else(Ei d (iH d) ((qs d).map e1) ((Bo (qs d)).map e1) ([]:List fL) 0))=some r):
  ∀(xs:List ck) (i:Nat),(iH d).drop i=xs->i<=(iH d).length->YB d (iH d) i ((((iH d).take i).map (cw d (iH d))).map e1)=some r:=by
 have w:=oS (d:=d);have K:=z.len;intro xs;induction xs with
 |nil=>
  intro i l B;refine k15_7 ?_;have q:=mI l;have e:(((iH d).take i).map (cw d (iH d)))=qs d:=by rw[iG q];rfl
  rw[e,bp l,aA,c54 (DV h) (by grind)];grind
 |cons x xs G=>
  intro i l B;refine k15_7 ?_;have D:=dY l;have F:x∈kz d:=gw.1 (aV (cr l));have H:(iH d).take (i+1)=(iH d).take i++[x]:=by rw[c7,cr l];rfl
  have:=G _ (aI l) af;rw[aK l,c53 z af F,aj,cC _ aH ai af,aQ l af];grind
def VK {s:ck} (h:isName s=true):s.length<=32:=by simp_all[isName]
def RH {q l:List Nat} (w:Fm q l) (h:∀c∈q,c<18446744073709551616):∀c∈l,c<18446744073709551616:=
 w.gen _ h λa b z _=>nv rS z
def SP {d:List aC} {i:Nat} (h:i<(iH d).length):(iH d).getD i []∈kz d:=by grind[gw,List.getElem_mem]
def O5 {d:List aC} {x:ck} (h:x∈kz d):∃i,i<(iH d).length/\(iH d).getD i []=x:=by obtain⟨i,l,e⟩:=jo.1 (gw.2 h);exact⟨i,l,by simp_all⟩
def OF {d:List aC} {x y:ck} (q:y∈kz d):sub (cw d (iH d) y) (cw d (iH d) x)=true↔Le d x y:=by
 rw[j0];constructor
 .intro h;obtain⟨i,l,e⟩:=O5 q;have:=h i (Ab.2 ⟨l,by rw[e];exact .refl⟩);simp_all[Ab]
 grind[Ab,kO.trans]
def cw_inj {d:List aC} (A:Acc d) {x y:ck} (l:x∈kz d) (q:y∈kz d) (h:cw d (iH d) x=cw d (iH d) y):x=y:=
 le_antisymm A ((OF q).1 (by rw[h];exact zf _)) ((OF l).1 (by rw[h];exact zf _))
def NK {q w:Type} {f:q->w}:∀{l:List q},l.Nodup->(∀x∈l,∀y∈l,f x=f y->x=y)->(l.map f).Nodup:=by intro l;induction l with
 |nil=>simp
 |cons x l z=>grind
def CH {d:List aC} (A:Acc d):(qs d).Nodup:=NK (mh _).nodup λx l y q h=>cw_inj A (gw.1 l) (gw.1 q) h
def OG {d:List aC}:∀c∈qs d,c≠0:=by
 intro c q;obtain⟨x,z,rfl⟩:=aD.1 q;intro e;obtain⟨i,w,l⟩:=O5 (gw.1 z)
 have:(cw d _ x).testBit i=true:=Ab.2 ⟨w,by rw[l];exact .refl⟩
 simp_all
def IY {d:List aC}:(qs d).length<=d.length:=by simp_all[oS,qs]
def CJ {d:List aC}:mK Fo (eL d)/\(eL d).Perm ((Bo (qs d)).map λw=>((Fs d (iH d) (qs d) w,w):Ep)):=by have:=Zz (E:=[]) (l:=(Bo (qs d)).map λw=>((Fs d (iH d) (qs d) w,w))) (by simp[mK]);assumption
def CI {d:List aC}:((eL d).map (·.2)).Perm (Bo (qs d)):=by have:=(CJ (d:=d)).2.map (·.2);simp_all[mX]
def VC {d:List aC} (A:Acc d) (L:d.length<=64) (P:(Bo (qs d)).length<=256):aaN ((eL d).map (·.2)):=by
 have I:(qs d).length<=256:=by have:=IY (d:=d);omega
 obtain⟨F,_,F3⟩:=E6 (CH A) OG I;have S:=CI (d:=d);have l:∀c,c∈(eL d).map (·.2)↔c∈Bo (qs d):=λc=>S.mem_iff
 have Q:=RH F (DV L);have R:((eL d).map (·.2)).Nodup:=S.nodup_iff.2 F.nd;have q:∀(i:Nat) (H:i<((eL d).map (·.2)).length),((eL d).map (·.2)).getD i 0=((eL d)[i]'(by simp_all)).2:=by intro i H;rw[bw,aM H];simp
 have z:∀i j,i<((eL d).map (·.2)).length->j<((eL d).map (·.2)).length->sub (((eL d).map (·.2)).getD j 0) (((eL d).map (·.2)).getD i 0)=true->i<=j:=by
  intro i j H hj hs;apply ff;intro G;have O:j<i:=af;have K:=nM.1 (CJ (d:=d)).1 j i (by simp_all) (by simp_all) O;have B:((eL d).map (·.2)).getD j 0≠((eL d).map (·.2)).getD i 0:=λe=>by grind[getD_inj]
  have V:=pc_lt (Q _ ((l _).1 (lF H))) hs B;rw[q i H,q j hj] at V
  have:Fo ((eL d)[i]'(by grind)) ((eL d)[j]'(by grind))=true:=Jb.2 (.inl V)
  rw[this] at K;cases K
 obtain⟨t,ht,D⟩:=root A;have hr:cw d (iH d) t∈Bo (qs d):=by obtain⟨e,he⟩:=F.pre;rw[he];exact cM _ (lP (gw.2 ht))
 have hsub:∀c∈Bo (qs d),sub c (cw d (iH d) t)=true:=F.gen (λc=>sub c (cw d (iH d) t)=true) (λc G=>by
  obtain⟨x,hx,rfl⟩:=aD.1 G
  exact(OF (gw.1 hx)).2 (D x (gw.1 hx))) (λa b N _=>zg (FW a b) N)
 have w:0<((eL d).map (·.2)).length:=zG ((l _).2 hr);obtain⟨k,U,hke⟩:∃k,k<((eL d).map (·.2)).length/\((eL d).map (·.2)).getD k 0=cw d (iH d) t:=by obtain⟨k,U,h1,_⟩:=OS ((l _).2 hr);grind
 have hk0 :=by have:=z k 0 U w (by grind[lF]);omega
 refine⟨R,λc G=>F.nz c ((l c).1 G),λa N b hb B=>(l _).2 (F3 P a ((l a).1 N) b ((l b).1 hb) B),λc G=>by simp_all,w,z⟩
def cd_ents {d:List aC} (A:Acc d) (q:d.length<=64) (B:(Bo (qs d)).length<=256):Cd ((eL d).map IQ) ((eL d).map (·.2)):=by
 have l:(qs d).length<=256:=by have:=IY (d:=d);omega
 obtain⟨F,_,D⟩:=E6 (CH A) OG l;have w:=CI (d:=d);refine⟨by simp[IQ],λc z=>RH F (DV q) c (w.mem_iff.1 z),?_⟩;rw[w.length_eq];omega
def c15 {d:List aC} (z:Sz d) (l:d.length<=64):f15 d=some (if IX d≠0 then([],IX d) else if(Bo (qs d)).length>256 then([],7) else((eL d).map IQ,0)):=by
 have G:=oS (d:=d);refine e15 ?_;rw[c32 z,aj];by_cases B:IX d=0
 .have A:=JK B;rw[B,cond_neg ai,c52 d af,aj];refine h15a z l ?_ _ 0 rfl af;by_cases D:(Bo (qs d)).length>256
  .grind
  .rw[cond_neg aH,az D];have w:(qs d).length<=256:=by have:=IY (d:=d);omega
   obtain⟨F,_,_⟩:=E6 (CH A) OG w
   exact h15b z A (by simp[qs]) af (λx K=>by
    obtain⟨t,I,rfl⟩:=aD.1 (gw.1 K)
    have:=VK (A.name t I);omega) (DV l) (RH F (DV l)) af _ 0 [] rfl ai af (by simp[mK]) (λq H=>by cases H)
 grind
end Go.Proofs.YthphfjcnkinkpaaGreatDoor.cl
namespace Go.Proofs.YthphfjcnkinkpaaGreatDoor.cl
open Go Go.AM
end Go.Proofs.YthphfjcnkinkpaaGreatDoor.cl
namespace Go.Proofs.YthphfjcnkinkpaaGreatDoor.cl
open Go Go.AM
noncomputable def bn (d:List aC) (w:Nat):List ck:=(bitsOf w).map λi=>(iH d).getD i []
noncomputable def nmW (d:List aC) (w:Nat):ck:=Fs d (iH d) (qs d) w
theorem TD {d:List aC} {w:Nat}:∀(ss:List ck) (q:List Nat) (i:Nat) (l:List ck) (k:Nat),ss.length=q.length->ja (λc=>c==w) q i=(k:Int)->i<=k/\ss[k-i]? =some (mQ d w ss q i l):=by intro ss;induction ss with
 |nil=>intro q i l k z h;have :=lQ.1 z.symm;subst this;have D:(-1:Int)=(k):=h;omega
 |cons s ss B=>intro q i l k z h;cases q with
  |nil=>simp at z
  |cons c q=>
   rw[ja] at h;simp[mQ];by_cases e:c=w
   .grind
   .rw[show(c==w)=false by simp_all] at h;rw[az e];obtain⟨F,G⟩:=B _ _ _ k (by simp_all) h;refine⟨af,?_⟩;rw[show k-i=(k-(i+1))+1 by omega,rO];omega
theorem PC {d:List aC} {w:Nat}:∀(ss:List ck) (q:List Nat) (i:Nat) (l:List ck),ss.length=q.length->(∀c∈q,c≠w)->mQ d w ss q i l=yQ [38] (wB d (l++((List.range ss.length).filter λj=>w.testBit (i+j)).map λj=>ss.getD j [])):=by intro ss;induction ss with
 |nil=>grind[mQ]
 |cons s ss D=>intro q i l B h;cases q with
  |nil=>simp at B
  |cons c q=>
   simp only[mQ];rw[bz,List.range_succ_eq_map];have e:((List.range ss.length).filter ((λj=>w.testBit (i+j))∘Nat.succ)).map ((λj=>(s::ss).getD j [])∘Nat.succ)=((List.range ss.length).filter λj=>w.testBit (i+1+j)).map λj=>ss.getD j []:=by
    have e1:((λj=>w.testBit (i+j))∘Nat.succ)=λj=>w.testBit (i+1+j):=by funext j;simp;congr 1;omega
    have z:((λj=>(s::ss).getD j [])∘Nat.succ)=λj=>ss.getD j _:=rfl
    rw[e1,z]
   grind
def Oq {w n:Nat} (B:n<=64) (h:∀i,w.testBit i=true->i<n):bitsOf w=(List.range n).filter w.testBit:=by
 unfold bitsOf;have z:=wY (n:=n) (m:=64-n)
 have:List.filter w.testBit (List.map (n+ ·) (List.range (64-n)))=[]:=by rw[zy];intro j q l;obtain⟨i,_,rfl⟩:=aD.1 q;have:=h _ l;omega
 simp_all
structure Dn (d:List aC) (w:Nat):Prop where
 lt:∀i,w.testBit i=true->i<(iH d).length
 dn:∀i j,i<(iH d).length->j<(iH d).length->w.testBit i=true->Le d ((iH d).getD i []) ((iH d).getD j [])->w.testBit j=true
def abp {d:List aC} (x:ck):Dn d (cw d (iH d) x):=
 ⟨λi h=>(Ab.1 h).1,λi j w l h q=>Ab.2 ⟨l,kO.trans (Ab.1 h).2 q⟩⟩
def dn_and {d:List aC} {a b:Nat} (l:Dn d a) (B:Dn d b):Dn d (a&&&b):=by
 refine⟨λi h=> ?_,λi j q w h z=> ?_⟩
 .rw[lN,aU] at h;exact l.lt i h.1
 .rw[lN,aU] at h⊢;exact⟨l.dn i j q w h.1 z,B.dn i j q w h.2 z⟩
theorem Ao {w i:Nat} (l:w<18446744073709551616):i∈bitsOf w↔w.testBit i=true:=by unfold bitsOf;rw[cT,gQ];refine⟨λh=>h.2,λh=>⟨?_,h⟩⟩;apply ff;intro q;rw[zK (fG l (u6 (n:=2) (i:=64) af af))] at h;cases h
theorem bn_SS {d:List aC} {w:Nat} (h:∀i,w.testBit i=true->i<(iH d).length):SS (bn d w):=by have G:=nM.1 (mh (kz d));unfold bn SS;rw[jI];have F:(bitsOf w).Pairwise _:=(List.pairwise_lt_range).sublist zL;refine F.imp_of_mem ?_;intro a b l B z;have q:=h a (cT.1 l).2;have D:=h b (cT.1 B).2;simp_all
def aa2 {d:List aC} {w:Nat} (h:∀i,w.testBit i=true->i<(iH d).length):∀x∈bn d w,x∈kz d:=by intro x q;obtain⟨i,l,rfl⟩:=aD.1 q;exact SP (h i (cT.1 l).2)
def Jc {d:List aC} {w:Nat} (h:∀i,w.testBit i=true->i<(iH d).length):wB d (bn d w)=(bn d w).filter (sd d (bn d w)):=by
 have q:(bn d w).filter (λs=>decide _)=bn d w:=zw.2 λx l=>by simpa using aa2 h x l
 grind[SS.ext,mh,bn_SS,gw,wB]
theorem CL {d:List aC} {l:List ck} {x:ck}:sd d l x=true↔∀y∈l,Le d y x->y=x:=by unfold sd;grind
theorem GG {d:List aC} (A:Acc d) {l:List ck}:∀x∈l,∃m∈l.filter (sd d l),Le d m x:=by
 obtain⟨r,B⟩:=A.rk;have key:∀(n) (x),r x=n->x∈l->∃m∈l.filter (sd d l),Le d m x:=by intro n;induction n using Nat.strongRecOn with
  |_ n I=>
   intro x e D;by_cases q:sd d l x=true
   .exact⟨x,cT.2 ⟨D,q⟩, .refl⟩
   .rw[CL] at q;obtain⟨y,F⟩:=Classical.not_forall.1 q;obtain⟨G,w⟩:=Classical.not_imp.1 F;obtain⟨z,H⟩:=Classical.not_imp.1 w
    have:r y<r x:=by
     rcases Pr B z with h|h
     .simp_all
     .exact h
    grind[kO.trans]
 simp_all
def U0 {d:List aC} {w:Nat} (z:w<18446744073709551616) (D:Dn d w) {i:Nat} (B:i<(iH d).length):w.testBit i=true↔(iH d).getD i []∈bn d w:=by
 unfold bn;rw[aD];constructor
 .intro h;exact⟨i,(Ao z).2 h,rfl⟩
 .rintro⟨j,F,e⟩;have l:=(Ao z).1 F;have q:=D.lt j l;rw[bw,bw,aM B,aM q] at e;have:=(rQ (mh _).nodup).1 e;simp_all
theorem ady {d:List aC} (A:Acc d) {w v:Nat} (I:w<18446744073709551616) (H:v<18446744073709551616) (B:Dn d w) (z:Dn d v) (h:wB d (bn d w)=wB d (bn d v)):w=v:=by
 have key:∀{w v:Nat},w<18446744073709551616->v<18446744073709551616->Dn d w->Dn d v->wB d (bn d w)=wB d (bn d v)->∀i,w.testBit i=true->v.testBit i=true:=by intro w v I H B z h i F;have l:=B.lt i F;obtain⟨m,G,L⟩:=GG A _ ((U0 I B l).1 F);rw[<-Jc B.lt,h,Jc z.lt] at G;have D:=(cT.1 G).1;obtain⟨j,K,rfl⟩:=aD.1 D;have q:=(Ao H).1 K;exact z.dn j i (z.lt j q) l q L
 apply uZ;grind
def Ye {d:List aC} (A:Acc d) (B:d.length<=64) {x:ck} (I:x∈kz d):wB d (bn d (cw d (iH d) x))=[x]:=by
 have F:=oS (d:=d);have w:cw d (iH d) x<18446744073709551616:=abn af;have D:=abp (d:=d) x;rw[Jc D.lt];have l:∀y,y∈(bn d (cw d (iH d) x)).filter (sd d (bn d (cw d (iH d) x)))↔y∈[x]:=by
  intro y;have K:x∈bn d (cw d (iH d) x):=by obtain⟨i,q,e⟩:=O5 I;have h:=(U0 w D q).1 (Ab.2 ⟨q,by rw[e];exact .refl⟩);rw[e] at h;exact h
  have H:∀z∈bn d (cw d (iH d) x),Le d x z:=by intro z L;obtain⟨j,G,rfl⟩:=aD.1 L;exact(Ab.1 ((Ao w).1 G)).2
  rw[cT,CL];constructor
  .simp_all
  .grind[le_antisymm]
 refine SS.ext ?_ (by simp[SS]) l;exact(bn_SS D.lt).sublist zL
def Th {s:ck} (h:isName s=true):(38:UInt8)∉s:=by unfold isName at h;grind[oW,D5]
def cut38:∀{x l t q:ck},(38:UInt8)∉x->(38:UInt8)∉l->(t=[]\/∃u,t=38::u)->(q=[]\/∃u,q=38::u)->x++t=l++q->x=l/\t=q:=by intro x;induction x with
 |nil=>intro l t q w z B D h;cases l with
  |nil=>simp_all
  |cons c l=>simp_all
 |cons c x F=>intro l t q w z B D h;cases l with
  |nil=>grind
  |cons c' l=>grind
def Gg (l:List ck):wO l=[]\/∃u,wO l=38::u:=by cases l with
 |nil=>exact .inl rfl
 |cons x l=>simp_all[wO]
theorem aaq:∀{l q:List ck},(∀x∈l,(38:UInt8)∉x)->(∀x∈q,(38:UInt8)∉x)->wO l=wO q->l=q:=by intro l;induction l with
 |nil=>intro q _ _ h;cases q with
  |nil=>rfl
  |cons x q=>simp[wO] at h
 |cons x l B=>intro q w z h;cases q with
  |nil=>simp[wO] at h
  |cons D q=>
   have e:∀(y) (m),wO (y::m)=38::(y++wO m):=λy m=>by rfl
   rw[e,e,cR] at h;obtain⟨a,b⟩:=cut38 (w x ai) (z _ ai) (Gg l) (Gg _) h.2;grind
theorem ZR {l q:List ck} (D:l≠[]) (B:q≠[]) (w:∀x∈l,(38:UInt8)∉x) (z:∀x∈q,(38:UInt8)∉x) (h:yQ [38] l=yQ [38] q):l=q:=by cases l with
 |nil=>simp_all
 |cons x l=>cases q with
  |nil=>simp_all
  |cons F q=>rw[D4,D4] at h;obtain⟨a,b⟩:=cut38 (w x ai) (z _ ai) (Gg l) (Gg _) h;grind[aaq]
def abM {d:List aC} {i:Nat} (l:i<(iH d).length):(qs d)[i]? =some (cw d (iH d) ((iH d).getD i [])):=by simp_all[qs]
def acf {l:Type} (p:l->Bool):∀(xs:List l) (i k:Nat),ja p xs i=(k:Int)->i<=k/\∃x,xs[k-i]? =some x/\p x=true:=by intro xs;induction xs with
 |nil=>intro i k h;have q:(-1:Int)=(k):=h;omega
 |cons x xs w=>intro i k h;rw[ja] at h;grind
def nmW_out {d:List aC} (l:d.length<=64) {w:Nat} (D:Dn d w) (h:∀c∈qs d,c≠w):nmW d w=yQ [38] (wB d (bn d w)):=by have q:=oS (d:=d);unfold nmW Fs;rw[PC _ _ _ _ (by simp[qs]) h,bn,Oq af D.lt];simp
def Wl {d:List aC} (A:Acc d) (l:d.length<=64) {w:Nat} (D:Dn d w):nmW d w=yQ [38] (wB d (bn d w)):=by
 by_cases h:∀c∈qs d,c≠w
 .exact nmW_out l D h
 .have K:¬ja (λc=>c==w) (qs d) 0<0:=by
   rw[acg];intro N;exact h λc I=>by simp_all
  obtain⟨k,G⟩:∃k:Nat,ja (λc=>c==w) (qs d) 0=(k):=⟨(ja (λc=>c==w) (qs d) 0).toNat,af⟩
  obtain⟨_,e⟩:=TD (iH d) _ 0 _ k (by simp[qs]) G;obtain⟨_,c,z,H⟩:=acf _ _ _ _ G;rw[u9] at e z;have q:=(bP.1 e).1;rw[abM q] at z;have B:cw d (iH d) ((iH d).getD k [])=w:=by rw[<-(iV.1 H)];exact fe z
  have F:(iH d).getD k []=nmW d w:=by rw[bw,e];rfl
  rw[F] at B;have L:nmW d w∈kz d:=by rw[<-F];exact SP q
  have:=Ye A l L;rw[B] at this;rw[this];rfl
def nmW_inj {d:List aC} (A:Acc d) (l:d.length<=64) {w v:Nat} (B:w<18446744073709551616) (P:v<18446744073709551616) (N:w≠0) (L:v≠0) (G:Dn d w) (F:Dn d v) (h:nmW d w=nmW d v):w=v:=by
 rw[Wl A l G,Wl A l F] at h;have ne:∀{w:Nat},w<18446744073709551616->w≠0->Dn d w->wB d (bn d w)≠[]:=by intro w B H D I;obtain⟨i,q⟩:=Nat.exists_testBit_of_ne_zero H;obtain⟨m,z,_⟩:=GG A _ ((U0 B D (D.lt i q)).1 q);rw[<-Jc D.lt,I] at z;cases z
 have fr:∀{w:Nat},Dn d w->∀x∈wB d (bn d w),(38)∉x:=by intro w D x O;obtain⟨t,K,rfl⟩:=aD.1 (aa2 D.lt x (Tw O));exact Th (A.name t K)
 grind[ady,ZR]
end Go.Proofs.YthphfjcnkinkpaaGreatDoor.cl
namespace Go.Proofs.YthphfjcnkinkpaaGreatDoor.cl
open Go Go.AM
def o31 {w v:Nat} (q:w<18446744073709551616) (l:v<18446744073709551616):f31 (e1 w) (e1 v)=some (decide (w=v)):=by
 refine e31 ?_;rw[o63 q l,aj,o63 l q,aj];by_cases h:w=v
 .subst h;rw[zf];simp
 .cases z:sub w v with
  |false=>simp[h]
  |true=>cases B:sub v w with
   |false=>simp[h]
   |true=>exact absurd (sL z B) h
def abG {d:List aC} (A:Acc d) (q:d.length<=64):Fm (qs d) (Bo (qs d))/\∀w∈Bo (qs d),Dn d w:=by
 have l:(qs d).length<=256:=by have:=IY (d:=d);omega
 obtain⟨F,_,_⟩:=E6 (CH A) OG l
 exact⟨F,F.gen (Dn d) (λc z=>by
  obtain⟨x,_,rfl⟩:=aD.1 z
  exact abp x) (λa b=>dn_and)⟩
def TF {d:List aC} (A:Acc d) (l:d.length<=64):((eL d).map (·.1)).Nodup:=by obtain⟨F,D⟩:=abG A l;have z:=(CJ (d:=d)).2.map (·.1);rw[eG] at z;refine z.nodup_iff.2 (NK F.nd λx q y w h=> ?_);exact nmW_inj A l (RH F (DV l) x q) (RH F (DV l) y w) (F.nz x q) (F.nz y w) (D x q) (D y w) h
def adP {D:Type} {l:List D} (h:l.Nodup) {i k:Nat} (z:i<l.length) (B:k<l.length) (e:l[i]=l[k]):i=k:=by
 have w:=nM.1 h;rcases zM i k with q|q|q
 .exact absurd e (w i k z B q)
 .exact q
 .exact absurd e.symm (w k i B z q)
structure Ok (d:List aC):Prop where
 z:Sz d
 acc:Acc d
 len:d.length<=64
 le:(Bo (qs d)).length<=256
noncomputable def tys (d:List aC):List Nat:=(eL d).map (·.2)
noncomputable def z7 (d:List aC):List fL:=(eL d).map IQ
def nZ {d:List aC}:(z7 d).length=(tys d).length:=by simp[tys,z7]
def Ok.VC {d:List aC} (h:Ok d):aaN (tys d):=cl.VC h.acc h.len h.le
def Ok.cd {d:List aC} (h:Ok d):Cd (z7 d) (tys d):=cd_ents h.acc h.len h.le
theorem Ok.cG {d:List aC} (h:Ok d):(tys d).length<=256:=by have:=(CI (d:=d)).length_eq;rw[tys,this];exact h.le
def Ok.lt {d:List aC} (h:Ok d) {i:Nat} (l:i<(tys d).length):(tys d).getD i 0<18446744073709551616:=h.cd.get l
noncomputable abbrev cwd (d:List aC) (x:ck):Nat:=cw d (iH d) x
def Ok.cwlt {d:List aC} (h:Ok d) (x:ck):cwd d x<18446744073709551616:=abn (by have:=oS (d:=d);have:=h.len;omega)
def abm {d:List aC} (A:Acc d) (l:d.length<=64) {x:ck} (w:x∈kz d):cwd d x∈Bo (qs d):=by obtain⟨F,D⟩:=abG A l;obtain⟨e,q⟩:=F.pre;rw[q];refine cM _ (aD.2 ⟨x,?_,rfl⟩);exact gw.2 w
def Ok.cwmem {d:List aC} (h:Ok d) {x:ck} (l:x∈kz d):cwd d x∈tys d:=(CI (d:=d)).mem_iff.2 (abm h.acc h.len l)
def Ok.entmem {d:List aC} (h:Ok d) {x:ck} (l:x∈kz d):((x,cwd d x):Ep)∈eL d:=by
 refine(CJ (d:=d)).2.mem_iff.2 (aD.2 ⟨cwd d x,abm h.acc h.len l,?_⟩)
 have:nmW d (cwd d x)=x:=by rw[Wl h.acc h.len (abp x),Ye h.acc h.len l];rfl
 show(nmW d (cwd d x),cwd d x)=_;rw[this]
noncomputable def nu (d:List aC) (x:ck):Nat:=(ja (λc:fL=>c.Name==x) (z7 d) 0).toNat
theorem Ok.Ar {d:List aC} (h:Ok d) {x:ck} (Q:x∈kz d):ja (λc:fL=>c.Name==x) (z7 d) 0=(nu d x:Int)/\nu d x<(tys d).length/\(tys d).getD (nu d x) 0=cwd d x/\∃R:nu d x<(z7 d).length,(z7 d)[nu d x].Name=x:=by
 have l:=h.entmem Q;obtain⟨j,F,e⟩:=XM (λc:fL=>c.Name==x) (z7 d) 0 ⟨IQ (x,cwd d x),aD.2 ⟨_,l,rfl⟩,by simp[IQ]⟩;have B:ja (λc:fL=>c.Name==x) (z7 d) 0=(j:Int):=by have:=e.1;simpa using this
 have K:nu d x=j:=by unfold nu;rw[B];simp
 obtain⟨_,c,N,w⟩:=acf _ _ _ _ B;obtain⟨p,P,z⟩:=jo.1 l;have q:j<(eL d).length:=by simpa[z7] using F
 rw[u9,z7,dA,aM q] at N;have D:(eL d)[j].1=x:=by have O:c=IQ (eL d)[j]:=(fe N).symm;rw[O] at w;exact iV.1 w
 have I:=TF h.acc h.len;have H:j=p:=by
  have G:j<((eL d).map (·.1)).length:=by simpa using q
  have L:p<((eL d).map (·.1)).length:=by simpa using P
  refine adP I G L ?_;rw[kF,kF,D,z]
 rw[K];refine⟨B,by rw[<-nZ];exact F,?_,F,by simpa using e.2.1⟩;subst H;show((eL d).map (·.2)).getD j 0=_;rw[bw,dA,aM q,z];rfl
def TE {d:List aC} {t:aC} (h:t∈d):t.Name∈kz d:=aD.2 ⟨t,h,rfl⟩
end Go.Proofs.YthphfjcnkinkpaaGreatDoor.cl
namespace Go.Proofs.YthphfjcnkinkpaaGreatDoor.cl
open Go Go.AM
def Cy (c:UInt8):Bool:=decide (65<=c.toNat)&&decide (c.toNat<=90)
def wq (s:ck):Bool:=decide (1<=s.length)&&decide (s.length<=32)&& !oW (s.getD 0 0)&& !(s.getD 0 0).toNat==45&&s.all λc=>oW c||c.toNat==45||Cy c
def c166 (c:UInt8):f166 (c.toNat:Int)=some (Cy c):=by
 refine e166 ?_;by_cases h:65<=c.toNat
 .rw[cond_pos aH];simp only[Cy,h,decide_true,iz];congr 1;rw[u7];omega
 .rw[cond_neg aH];simp[Cy,h]
def c160t (c:UInt8):f160 (c.toNat:Int) true=some (oW c||c.toNat==45||Cy c):=by refine e160 ?_;rw[c159,aj,c166,aj];cases oW c with
 |true=>rfl
 |false=>
  by_cases h:c.toNat=45
  .rw[aA,cond_pos aH];simp[h]
  .rw[aA,cond_neg aH];cases Cy c<;>simp[h]
def h140t (s:ck) (l:s.length<=1073741824):∀(xs:ck) (i:Nat),s.drop i=xs->LJ s true i=some (xs.all λc=>oW c||c.toNat==45||Cy c):=by intro xs;induction xs with
 |nil=>intro i h;refine O8 ?_;rw[bp h];rfl
 |cons x xs q=>intro i h;refine O8 ?_;rw[aT h,au,aK h,c160t,aj,aQ h l,q (i+1) (aI h),lW];cases(oW x||x.toNat==45||Cy x)<;>rfl
def c372 (s:ck):f372 s=some (wq s):=by
 refine e372 ?_
 have:f140 s true=some (wq s):=by
  refine e140 ?_;by_cases l:1<=s.length
  .rw[cond_neg aH];by_cases q:s.length<=32
   .rw[cond_neg aH,show(0:Int)=((0:Nat):Int) from rfl,cH af,c159,aj,cH af,h140t s af s 0 rfl];have z:s.getD 0 0=s[0]:=by rw[bw,aM af];rfl
    unfold wq;rw[z];cases oW s[0] with
    |true=>simp[l,q]
    |false=>
     by_cases w:s[0].toNat=45
     .rw[aA,cond_pos aH];simp[w]
     .rw[aA,cond_neg aH];simp[l,q,w]
   .rw[cond_pos aH];simp[wq,q]
  .rw[cond_pos aH];simp[wq,l]
 rw[this];rfl
def Fz (d:List aC):Prop:=∀t∈d,t.bD.length<=1048576
def val (t:aC) (F:ck):Option ck:=(t.bD.find? λx=>x.bB==F).map (·.Value)
def h373 (t:aC) (F:ck) (q:t.bD.length<=1048576):∀(xs:List dH) (i:Nat),t.bD.drop i=xs->
  QE F i t=some (match xs.find? λx=>x.bB==F with|some x=>(x.Value,true)|none=>([],false)):=by
 intro xs;induction xs with
 |nil=>intro i h;refine acN ?_;rw[bp h];rfl
 |cons x xs l=>intro i h;refine acN ?_;rw[aT h,au,aK h,aK h,aQ h af,l (i+1) (aI h),lR];cases x.bB==F<;>rfl
def c373 (t:aC) (F:ck) (l:t.bD.length<=1048576):f373 t F=some (match val t F with|some v=>(v,true)|none=>([],false)):=by refine e373 ((h373 t F l t.bD 0 rfl).trans ?_);rw[val];cases t.bD.find? λx=>x.bB==F<;>rfl
def aev {t:aC} {F v:ck} (h:val t F=some v):∃x∈t.bD,x.bB=F/\x.Value=v:=by unfold val at h;obtain⟨x,l,rfl⟩:=cL.1 h;exact⟨x,nJ l,by simpa using pY l,rfl⟩
abbrev fns (t:aC):List ck:=t.bD.map (·.bB)
def fal (d:List aC):List ck:=d.flatMap fns
def qz (d:List aC):List ck:=oJ (fal d)
def h345b {d:List aC} {i:Nat} {t:aC} (q:d[i]? =some t) (F:t.bD.length<=1048576) {r:List ck}:∀(xs:List dH) (k:Nat) (o:List ck),t.bD.drop k=xs->o.length<=1072000000+k->
  LM d ((xs.map (·.bB)).foldl (λo s=>qQ s o) o) (i+1:Nat)=some r->i<1000000->Qv d o i k=some r:=by
 intro xs;induction xs with
 |nil=>intro k o h z w l;refine acB ?_;rw[iI q,bp h,aA,bM af];exact w
 |cons x xs B=>intro k o h z w l;refine acB ?_;have D:=dY h;have G:=nj x.bB o;rw[iI q,aT h,au,iI q,aK h,c98 _ _ af,aj,aQ h af];exact B (k+1) _ (aI h) af w l
def h345 {d:List aC} (I:d.length<=1000) (z:Fz d):∀(xs:List aC) (i:Nat) (o:List ck),d.drop i=xs->o.length<=1048576 *i->LM d o i=some ((fal xs).foldl (λo s=>qQ s o) o):=by intro xs;induction xs with
 |nil=>intro i o h B;refine acA ?_;rw[bp h];rfl
 |cons t xs w=>
  intro i o h B;refine acA ?_;have H:=dY h;have D:=z t (aV (cr h));rw[aT h,au];refine h345b (cr h) D t.bD 0 o rfl af ?_ af;have q:(((fns t)).foldl (λo s=>qQ s o) o).length<=o.length+(fns t).length:=by
   have:∀(l o:List ck),(l.foldl (λo s=>qQ s o) o).length<=o.length+l.length:=by intro l;induction l with
    |nil=>intro o;simp
    |cons a l w=>intro o;have F:=nj a o;have G:=w (qQ a o);rw[gb,bz];omega
   exact this _ _
  rw[bf] at q;rw[w (i+1) ((fns t).foldl (λo s=>qQ s o) o) (aI h) af];unfold fal;rw[rT,List.foldl_append]
def c345 {d:List aC} (q:d.length<=1000) (l:Fz d):f345 d=some (qz d):=e345 (h345 q l d 0 [] rfl ai)
def Vs (w:List ck):List ck->List dH->Int
 |_,[]=>0
 |q,x::l=>if wq x.bB=false then 1 else if x.bB∈q then 4 else if x.Value∈w then Vs w (q++[x.bB]) l else 5
def r9 (l:List ck):List aC->Int
 |[]=>0
 |t::d=>if Vs l [] t.bD=0 then r9 l d else Vs l [] t.bD
def abH (F:List ck):∀(l:List dH) (q:List ck),Vs F q l=0↔(∀x∈l,wq x.bB=true/\x.Value∈F)/\(l.map (·.bB)).Nodup/\∀x∈l,x.bB∉q:=by intro l;induction l with
 |nil=>intro q;simp[Vs]
 |cons x l I=>intro q;unfold Vs;cases G:wq x.bB with
  |false=>simp[G]
  |true=>
   rw[az ai];by_cases B:x.bB∈q
   .rw[aB B];simp[B]
   .rw[az B];by_cases D:x.Value∈F
    .rw[aB D,I];constructor
     .rintro⟨a,b,c⟩;refine⟨λy w=> ?_,?_,λy w=> ?_⟩
      .rcases aN.1 w with rfl|w
       .exact⟨G,D⟩
       .exact a y w
      .rw[bH,gj];refine⟨λH=> ?_,b⟩;obtain⟨y,w,e⟩:=aD.1 H;exact c y w (by rw[e];simp)
      .rcases aN.1 w with rfl|w
       .exact B
       .exact λz=>c y w (by simp[z])
     .rintro⟨a,b,c⟩;rw[bH,gj] at b;refine⟨λy w=>a y (by simp[w]),b.2,λy w z=> ?_⟩;rcases bu.1 z with z|z
      .exact c y (by simp[w]) z
      .exact b.1 (aD.2 ⟨y,w,by simpa using z⟩)
    .rw[az D];constructor
     .intro h;cases h
     .rintro⟨a,_⟩;exact absurd (a x ai).2 D
def Vr (w:List ck):∀(d:List aC),r9 w d=0↔∀t∈d,(∀x∈t.bD,wq x.bB=true/\x.Value∈w)/\(fns t).Nodup:=by intro d;induction d with
 |nil=>simp[r9]
 |cons t d B=>
  unfold r9;have z:=abH w t.bD [];by_cases h:Vs w [] t.bD=0
  .rw[aB h,B];obtain⟨a,b,_⟩:=z.1 h;constructor
   .intro l u q;rcases aN.1 q with rfl|q
    .exact⟨a,b⟩
    .exact l u q
   .exact λl u q=>l u (by simp[q])
  .rw[az h];constructor
   .intro l;exact absurd l h
   .intro l;obtain⟨a,b⟩:=l t ai;exact absurd (z.2 ⟨a,b,λx _=>by simp⟩) h
def h346c {d:List aC} {all:List ck} (q:all.length<=1073741824) {i k:Nat} {l:List dH} (H:l.length<=1048576) (z:k<l.length) {r:Int}
  (F:(if l[k].Value∈all then LO d all i l (k+1:Nat) else some 5)=some r):∀(n m:Nat),k-m=n->m<=k->
  Jn d all i l k m=some (if l[k].bB∈((l.take k).drop m).map (·.bB) then 4 else r):=by
 intro n;induction n with
 |zero=>
  intro m B w
  have:m=k:=af
  subst this;refine XS ?_;rw[cond_neg ai,cH z,c37 _ _ q,aj];have e:(l.take m).drop m=[]:=by rw[List.drop_eq_nil_iff,fh];omega
  rw[e,az ai,<-F,bM af];by_cases h:l[m].Value∈all
  .rw[aB h,cond_neg (by simpa using h)]
  .rw[az h,cond_pos (by simpa using h)]
 |succ n G=>
  intro m B w;have D:m<k:=af;refine XS ?_;rw[cond_pos aH,cH af,cH z,bM af,G (m+1) af af];have e:(l.take k).drop m=l[m]::(l.take k).drop (m+1):=by rw[iW (by rw[fh];omega),List.getElem_take]
  rw[e,bH];by_cases h:l[m].bB=l[k].bB
  .rw[cond_pos (by simpa using h),aB (by rw[h];simp)]
  .rw[cond_neg (by simpa using h)];simp only[aN,eB h,false_or]
def h346b {d:List aC} {all:List ck} (w:all.length<=1073741824) {i:Nat} (N:i<1000000) {l:List dH} (G:l.length<=1048576) {r:Int} (H:LN d all (i+1:Nat)=some r):∀(xs:List dH) (k:Nat),l.drop k=xs->
  LO d all i l k=some (if Vs all ((l.take k).map (·.bB)) xs=0 then r else Vs all ((l.take k).map (·.bB)) xs):=by
 intro xs;induction xs with
 |nil=>intro k h;refine acD ?_;rw[bp h,aA,bM af,H];rfl
 |cons x xs K=>
  intro k h;refine acD ?_;have F:=dY h;have D:l[k]=x:=(bP.1 (cr h)).2;have B:(l.take k).map (·.bB)++[x.bB]=(l.take (k+1)).map (·.bB):=by rw[c7,cr h];simp
  rw[aT h,au,aK h,c372,aj];unfold Vs;cases L:wq x.bB with
  |false=>rfl
  |true=>
   rw[dM,aA];rw[az (by simp:¬(true=false)),B];have I:=K (k+1) (aI h)
   rw[show(0:Int)=((0:Nat):Int) from rfl,h346c w G F (r:=if x.Value∈all then(if Vs all ((l.take (k+1)).map (·.bB)) xs=0 then r else Vs all ((l.take (k+1)).map (·.bB)) xs) else 5) (by
    rw[D];by_cases q:x.Value∈all
    .rw[aB q,aB q];exact I
    .rw[az q,az q]) _ 0 rfl af,p7,D]
   by_cases z:x.bB∈(l.take k).map (·.bB)
   .rw[aB z,aB z];rfl
   .rw[az z,az z];by_cases q:x.Value∈all
    .rw[aB q,aB q];rfl
    .rw[az q,az q];rfl
def h346 {d:List aC} (B:d.length<=1000) (q:Fz d) {all:List ck} (l:all.length<=1073741824):∀(xs:List aC) (i:Nat),d.drop i=xs->LN d all i=some (r9 all xs):=by intro xs;induction xs with
 |nil=>intro i h;refine acC ?_;rw[bp h];rfl
 |cons t xs z=>intro i h;refine acC ?_;have D:=dY h;have w:=q t (aV (cr h));rw[aT h,au,aK h,show(0:Int)=((0:Nat):Int) from rfl,h346b l af w (z (i+1) (aI h)) t.bD 0 rfl];rfl
def Zw {w ms:List ck} (h:∀x,x∈w↔x∈ms):∀(l:List dH) (q:List ck),Vs w q l=Vs ms q l:=by intro l;induction l with
 |nil=>intro _;rfl
 |cons x l z=>intro q;unfold Vs;rw[z];simp only[h x.Value]
def SD {l ms:List ck} (h:∀x,x∈l↔x∈ms):∀(d:List aC),r9 l d=r9 ms d:=by intro d;induction d with
 |nil=>rfl
 |cons t d q=>unfold r9;rw[q,Zw h]
def c346 {d:List aC} (q:d.length<=1000) (w:Fz d):f346 d=some (r9 (kz d) d):=by refine e346 ?_;have l:=qo (kz d);rw[bf] at l;rw[c52 d af,aj,show(0:Int)=((0:Nat):Int) from rfl,h346 q w af d 0 rfl,SD (λx=>gw)]
