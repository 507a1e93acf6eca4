/- The Closure laws. -/
import Derived.Test.YthphfjcnkinkpaaGreatDoorClK
import Derived.Test.YthphfjcnkinkpaaGreatDoorClT
set_option linter.all false
namespace Go.Proofs.YthphfjcnkinkpaaGreatDoor.cl
open Go Go.AM
def wF (l:List cn):cn:=(l.map λx=>38::x).flatten
def DB (x:cn) (l:List cn):yw [38] (x::l)=x++wF l:=by induction l generalizing x with
 |nil=>simp[yw,wF]
 |cons y l q=>rw[show yw _ _=x++[38]++yw _ _ from rfl,q y];simp[wF]
def h55c (l:List cn) (F:l.length<=1048576) (w:∀x∈l,x.length<=1000):∀(xs:List cn) (i:Nat) (s:cn),l.drop i=xs->0<i->s.length<=1001 *i->GF l s i=some (s++wF xs):=by intro xs;induction xs with
 |nil=>grind[VU,aW,wF]
 |cons x xs B=>intro i s h D G;refine VU ?_;have q:=dN h;have z:=w x (aR (bV h));rw[aP h,ak,cond_pos aI,bT aI,aJ h,bT aI,aN h af,B _ _ (aH h) af aI];simp[wF]
def c55c (l:List cn) (D:l.length<=1048576) (F:∀x∈l,x.length<=1000):GF l [] 0=some (yw [38] l):=by refine VU ?_;cases q:l with
 |nil=>rfl
 |cons x xs=>have h:l.drop 0=x::xs:=q;rw[<-q];have B:((0:Nat):Int)=0:=rfl;have w:=aP h;have z:= @aJ _ (List UInt8) _ _ _ _ h;rw[B] at w z;rw[w,ak,cond_neg ai,z,bT (by grind)];have:=h55c l D F _ 1 ([]++x) (aH h) af (by grind);rw[q,DB,<-q];exact this
noncomputable def mU (d:List aC) (w:Nat):List cn->List Nat->Nat->List cn->cn
 |s::ss,c::q,i,l=>if c=w then s else mU d w ss q (i+1) (if w.testBit i=true then l++[s] else l)
 |_,_,_,l=>yw [38] (wj d l)
theorem Ti {d:List aC} {l:List cn} {x:cn} (h:x∈wj d l):x∈l:=by have:=(c7.1 h).1;simp_all[gB]
theorem Th {d:List aC} {l:List cn}:(wj d l).length<=l.length:=by refine fU (uY _ _) (fU (qp _) (uY _ _))
def subs_eq {c w:Nat} (l:c<18446744073709551616) (q:w<18446744073709551616):f102 (e1 c) (e1 w)=some (decide (c=w)):=by have z:=mQ c;have B:=mQ w;rw[c102 _ _ af af,Z8 (aex l) (aex q),IK,IK];grind[Vb]
def h55 {d:List aC} (z:Sz d) (A:Acc d) {all:List cn} {qt:List Nat} (O:qt.length=all.length) (S:all.length<=64) (K:∀x∈all,x.length<=1000) (H:∀c∈qt,c<18446744073709551616) {w:Nat} (Q:w<18446744073709551616):
  ∀(xs:List cn) (q:List Nat) (i:Nat) (l:List cn),all.drop i=xs->qt.drop i=q->i<=all.length->l.length<=i->(∀x∈l,x.length<=1000)->Ue d all (qt.map e1) (e1 w) i l=some (mU d w xs q i l):=by
 intro xs;induction xs with
 |nil=>
  intro q i l h B F D L;refine k55_3 ?_;have U:=kJ h;have N:q=[]:=by rw[<-B];exact rV af
  subst N;rw[aW h,aA,c104 z A l af];simp only[aj];rw[c55c _ (by grind[Th]) (λx I=>L x (Ti I))];rfl
 |cons x xs R=>intro q i l h B F D L;refine k55_3 ?_;have P:=dN h;cases q with
  |nil=>have:=kJ B;omega
  |cons c q=>
   have I:(qt.map e1).drop i=e1 c::q.map e1:=by rw[<-p7,B];rfl
   rw[aP h,ak,aJ I,subs_eq (H c (aR (bV B))) Q,aj,aJ h,c103 Q af,aJ h,aN h af];show _=some (if c=w then x else mU d w _ _ _ _);by_cases e:c=w
   .simp_all
   .rw[cond_neg (by simp_all),az e];cases V:w.testBit i with
    |true=>
     rw[cC _ af ai af,R _ _ _ (aH h) (aH B) af aI (λy G=>by
      rcases bu.1 G with G|G
      .simp_all
      .simp at G;subst G;exact K y (aR (bV h)))]
     simp
    |false=>rw[R _ _ _ (aH h) (aH B) af af L];simp
noncomputable def EW (d:List aC) (all:List cn) (qt:List Nat) (w:Nat):cn:=mU d w all qt 0 []
def c55 {d:List aC} (z:Sz d) (A:Acc d) {all:List cn} {qt:List Nat} (l:qt.length=all.length) (q:all.length<=64) (D:∀x∈all,x.length<=1000) (B:∀c∈qt,c<18446744073709551616) {w:Nat} (F:w<18446744073709551616):
  f55 d all (qt.map e1) (e1 w)=some (EW d all qt w):=e55 (h55 z A l q D B F _ _ 0 _ rfl rfl af ai (λx G=>by cases G))
abbrev DW:=cn×Nat
def Ij (p:DW):fO:=⟨p.1,e1 p.2⟩
def ET (p q:DW):Bool:=decide (pc p.2>pc q.2)||(decide (pc p.2=pc q.2)&&Op.bytesLess p.1 q.1)
def c56 {p q:DW} (l:p.2<18446744073709551616) (w:q.2<18446744073709551616):f56 (Ij p) (Ij q)=some (ET p q):=by
 refine e56 ?_;show Option.bind (f105 (e1 _)) _=_;rw[c105 l];show Option.bind (f105 (e1 _)) _=_;rw[c105 w];unfold ET;by_cases z:pc p.2>pc q.2
 .simp_all
 .by_cases B:pc p.2=pc q.2
  .simp_all[Ij]
  grind
theorem IG {p q:DW}:ET p q=true↔pc p.2>pc q.2\/(pc p.2=pc q.2/\Op.bytesLess p.1 q.1=true):=by simp[ET]
def Nd (p q:DW) (h:ET p q=true):ET q p=false:=by grind[IG,Bk]
theorem V8 (x y z:DW) (h:ET x y=true) (l:ET z y=false):ET x z=true:=by
 rw[IG] at h⊢;have D:¬(pc z.2>pc y.2\/(pc z.2=pc y.2/\Op.bytesLess z.1 y.1=true)):=λB=>by grind[IG]
 rcases h with h|⟨q,w⟩
 .omega
 .by_cases e:pc z.2=pc y.2
  .grind[vK,Bl]
  omega
theorem ZD {q:Type} (lt:q->q->Bool) (x:q):∀l:List q,(sn lt x l).Perm (x::l):=by intro l;induction l with
 |nil=>rfl
 |cons y l w=>
  unfold sn;split
  .rfl
  .exact(w.cons y).trans (.swap x y l)
def h15c {d:List aC} {all:List cn} {l f:List (List Int)} {E:List DW} {p:DW} {i:Nat} (N:mO ET E) (H:∀q∈E,q.2<18446744073709551616) (Q:p.2<18446744073709551616) (O:E.length<=1048576) (U:i<=1048576):
  ∀(v:Nat),v<=E.length->(∀q∈E.drop v,ET p q=true)->∀r,DQ d all l f ((sn ET p E).map Ij) (i+1:Nat)=some r->Qb d all l f (E.map Ij) i v (Ij p)=some r:=by
 have z:∀(v:Nat),v<=E.length->(∀q∈E.take v,ET p q=false)->(∀q∈E.drop v,ET p q=true)->
   (((([]:List fO)++(((E.map Ij).take (Int.toNat (v:Int))).drop 0))++[Ij p])++(((E.map Ij).take (List.length (E.map Ij))).drop (Int.toNat (v:Int))))=(sn ET p E).map Ij:=by
  intro v I K L;have:=Vz ET K L;rw[lT] at this;rw[this,fT];simp
 intro v;induction v with
 |zero=>intro I h r G;refine acd ?_;rw[<-z 0 af ai h] at G;rw[cond_neg ai,bT ai,bT ai,bT ai,bT ai,bT aI,bM af];omega
 |succ v R=>
  intro I h r G;refine acd ?_;have w:v<E.length:=af;have B:(E.map Ij)[v]? =some (Ij E[v]):=by rw[dK,aM w];rfl
  rw[cond_pos ai,oF af,gM B,c56 Q (H _ (bB w)),aj];cases S:ET p E[v] with
  |true=>rw[ak];refine R af ?_ r G;intro q F;rw[iH w] at F;grind
  |false=>
   have D:∀q∈E.take (v+1),ET p q=false:=by
    intro q F;rw[uX] at F;obtain⟨k,V,rfl⟩:=F;by_cases P:k=v
    .simp_all
    .have hs:ET E[v] E[k]=false:=by
      have:=nQ.1 N k v af w af;exact this
     grind[V8]
   rw[<-z _ af D h] at G;rw[aA,bT aI,bT aI,bT aI,bT aI,bT aI,bM af];omega
def Zo {E:List DW} {l:List DW} (q:mO ET E):mO ET (l.foldl (λE p=>sn ET p E) E)/\(l.foldl (λE p=>sn ET p E) E).Perm (E++l):=by induction l generalizing E with
 |nil=>simp_all
 |cons p l w=>obtain⟨z,B⟩:=w (BF _ Nd V8 q (x:=p));grind[ZD]
def h15b {d:List aC} (z:Sz d) (A:Acc d) {all:List cn} {qt F:List Nat} (B:qt.length=all.length) (G:all.length<=64) (K:∀x∈all,x.length<=1000) (H:∀c∈qt,c<18446744073709551616)
  (Q:∀w∈F,w<18446744073709551616) (R:F.length<=1000):∀(xs:List Nat) (i:Nat) (E:List DW),F.drop i=xs->E.length<=i->i<=F.length->mO ET E->(∀q∈E,q.2<18446744073709551616)->
  DQ d all (qt.map e1) (F.map e1) (E.map Ij) i=some (((xs.map λw=>((EW d all qt w,w):DW)).foldl (λE p=>sn ET p E) E).map Ij,0):=by
 intro xs;induction xs with
 |nil=>grind[ab9,e1,List.map_drop,aW]
 |cons w xs U=>
  intro i E h P V N S;refine ab9 ?_;have O:=dN h;have I:(F.map e1).drop i=e1 w::xs.map e1:=by rw[<-p7,h];rfl
  have L:=Q w (aR (bV h));rw[aP I,ak,aJ I,c55 z A B G K H L,aj,aJ I];have l:((E.map Ij).length)=((E.length)):=by simp
  rw[l];refine h15c (p:=(EW d _ _ w,w)) N S L af af _ (aZ _) ai _ ?_;refine U _ _ (aH h) (by rw[SR];omega) af (BF _ Nd V8 N) ?_;intro q D;rcases(SU _).1 D with rfl|D
  .exact L
  grind
abbrev iQ (d:List aC):List cn:=oO (ku d)
noncomputable def qt (d:List aC):List Nat:=(iQ d).map (cw d (iQ d))
noncomputable def eS (d:List aC):List DW:=((AZ (qt d)).map λw=>((EW d (iQ d) (qt d) w,w):DW)).foldl (λE p=>sn ET p E) []
theorem oV {d:List aC}:(iQ d).length<=d.length:=by have:=qp (ku d);simp_all
def Ds {d:List aC} (h:d.length<=64):∀c∈qt d,c<18446744073709551616:=by intro c l;obtain⟨x,_,rfl⟩:=aG.1 l;grind[aa8,oV]
def h15a {d:List aC} (z:Sz d) (h:d.length<=64) {r:(List fO×Int)}
  (I:(bif(decide ((((AZ (qt d)).map e1).length:Int)>256)) then(some (([]:List fO),(7:Int))) else(DQ d (iQ d) ((qt d).map e1) ((AZ (qt d)).map e1) ([]:List fO) 0))=some r):
  ∀(xs:List cn) (i:Nat),(iQ d).drop i=xs->i<=(iQ d).length->Yv d (iQ d) i ((((iQ d).take i).map (cw d (iQ d))).map e1)=some r:=by
 have w:=oV (d:=d);have K:=z.len;intro xs;induction xs with
 |nil=>
  intro i l B;refine k15_7 ?_;have q:=kJ l;have e:(((iQ d).take i).map (cw d (iQ d)))=qt d:=by rw[gK q];rfl
  rw[e,aW l,aA,c54 (Ds h) (by grind)];grind
 |cons x xs G=>
  intro i l B;refine k15_7 ?_;have D:=dN l;have F:x∈ku d:=gB.1 (aR (bV l));have H:(iQ d).take (i+1)=(iQ d).take i++[x]:=by rw[cM,bV l];rfl
  have:=G _ (aH l) af;rw[aJ l,c53 z af F,aj,cC _ aI ai af,aN l af];grind
def VB {s:cn} (h:isName s=true):s.length<=32:=by simp_all[isName]
def Rz {q l:List Nat} (w:Fm q l) (h:∀c∈q,c<18446744073709551616):∀c∈l,c<18446744073709551616:=
 w.gen _ h λa b z _=>nE rW z
def SC {d:List aC} {i:Nat} (h:i<(iQ d).length):(iQ d).getD i []∈ku d:=by grind[gB,List.getElem_mem]
def OL {d:List aC} {x:cn} (h:x∈ku d):∃i,i<(iQ d).length/\(iQ d).getD i []=x:=by obtain⟨i,l,e⟩:=jw.1 (gB.2 h);exact⟨i,l,by simp_all⟩
def Oj {d:List aC} {x y:cn} (q:y∈ku d):sub (cw d (iQ d) y) (cw d (iQ d) x)=true↔Le d x y:=by
 rw[j8];constructor
 .intro h;obtain⟨i,l,e⟩:=OL q;have:=h i (zH.2 ⟨l,by rw[e];exact .refl⟩);simp_all[zH]
 grind[zH,qG.trans]
def cw_inj {d:List aC} (A:Acc d) {x y:cn} (l:x∈ku d) (q:y∈ku d) (h:cw d (iQ d) x=cw d (iQ d) y):x=y:=
 le_antisymm A ((Oj q).1 (by rw[h];exact yO _)) ((Oj l).1 (by rw[h];exact yO _))
def Nl {q w:Type} {f:q->w}:∀{l:List q},l.Nodup->(∀x∈l,∀y∈l,f x=f y->x=y)->(l.map f).Nodup:=by intro l;induction l with
 |nil=>simp
 |cons x l z=>grind
def Cp {d:List aC} (A:Acc d):(qt d).Nodup:=Nl (mz _).nodup λx l y q h=>cw_inj A (gB.1 l) (gB.1 q) h
def Ol {d:List aC}:∀c∈qt d,c≠0:=by
 intro c q;obtain⟨x,z,rfl⟩:=aG.1 q;intro e;obtain⟨i,w,l⟩:=OL (gB.1 z)
 have:(cw d _ x).testBit i=true:=zH.2 ⟨w,by rw[l];exact .refl⟩
 simp_all
theorem Iu {d:List aC}:(qt d).length<=d.length:=by simp_all[oV,qt]
def Cr {d:List aC}:mO ET (eS d)/\(eS d).Perm ((AZ (qt d)).map λw=>((EW d (iQ d) (qt d) w,w):DW)):=by have:=Zo (E:=[]) (l:=(AZ (qt d)).map λw=>((EW d (iQ d) (qt d) w,w))) (by simp[mO]);assumption
def Cq {d:List aC}:((eS d).map (·.2)).Perm (AZ (qt d)):=by have:=(Cr (d:=d)).2.map (·.2);simp_all[nq]
def Vs {d:List aC} (A:Acc d) (L:d.length<=64) (P:(AZ (qt d)).length<=256):aav ((eS d).map (·.2)):=by
 have I:(qt d).length<=256:=by have:=Iu (d:=d);omega
 obtain⟨F,_,F3⟩:=EA (Cp A) Ol I;have S:=Cq (d:=d);have l:∀c,c∈(eS d).map (·.2)↔c∈AZ (qt d):=λc=>S.mem_iff
 have Q:=Rz F (Ds L);have R:((eS d).map (·.2)).Nodup:=S.nodup_iff.2 F.nd;have q:∀(i:Nat) (H:i<((eS d).map (·.2)).length),((eS d).map (·.2)).getD i 0=((eS d)[i]'(by simp_all)).2:=by intro i H;rw[bA,aM H];simp
 have z:∀i j,i<((eS d).map (·.2)).length->j<((eS d).map (·.2)).length->sub (((eS d).map (·.2)).getD j 0) (((eS d).map (·.2)).getD i 0)=true->i<=j:=by
  intro i j H hj hs;apply fh;intro G;have O:j<i:=af;have K:=nQ.1 (Cr (d:=d)).1 j i (by simp_all) (by simp_all) O;have B:((eS d).map (·.2)).getD j 0≠((eS d).map (·.2)).getD i 0:=λe=>by grind[getD_inj]
  have V:=pc_lt (Q _ ((l _).1 (lI H))) hs B;rw[q i H,q j hj] at V
  have:ET ((eS d)[i]'(by grind)) ((eS d)[j]'(by grind))=true:=IG.2 (.inl V)
  rw[this] at K;cases K
 obtain⟨t,ht,D⟩:=root A;have hr:cw d (iQ d) t∈AZ (qt d):=by obtain⟨e,he⟩:=F.pre;rw[he];exact cO _ (nP (gB.2 ht))
 have hsub:∀c∈AZ (qt d),sub c (cw d (iQ d) t)=true:=F.gen (λc=>sub c (cw d (iQ d) t)=true) (λc G=>by
  obtain⟨x,hx,rfl⟩:=aG.1 G
  exact(Oj (gB.1 hx)).2 (D x (gB.1 hx))) (λa b N _=>yP (Fo a b) N)
 have w:0<((eS d).map (·.2)).length:=ze ((l _).2 hr);obtain⟨k,U,hke⟩:∃k,k<((eS d).map (·.2)).length/\((eS d).map (·.2)).getD k 0=cw d (iQ d) t:=by obtain⟨k,U,h1,_⟩:=Oz ((l _).2 hr);grind
 have hk0 :=by have:=z k 0 U w (by grind[lI]);omega
 refine⟨R,λc G=>F.nz c ((l c).1 G),λa N b hb B=>(l _).2 (F3 P a ((l a).1 N) b ((l b).1 hb) B),λc G=>by simp_all,w,z⟩
def cd_ents {d:List aC} (A:Acc d) (q:d.length<=64) (B:(AZ (qt d)).length<=256):Cd ((eS d).map Ij) ((eS d).map (·.2)):=by
 have l:(qt d).length<=256:=by have:=Iu (d:=d);omega
 obtain⟨F,_,D⟩:=EA (Cp A) Ol l;have w:=Cq (d:=d);refine⟨by simp[Ij],λc z=>Rz F (Ds q) c (w.mem_iff.1 z),?_⟩;rw[w.length_eq];omega
def c15 {d:List aC} (z:Sz d) (l:d.length<=64):f15 d=some (if Ir d≠0 then([],Ir d) else if(AZ (qt d)).length>256 then([],7) else((eS d).map Ij,0)):=by
 have G:=oV (d:=d);refine e15 ?_;rw[c32 z,aj];by_cases B:Ir d=0
 .have A:=Jh B;rw[B,cond_neg ai,c52 d af,aj];refine h15a z l ?_ _ 0 rfl af;by_cases D:(AZ (qt d)).length>256
  .grind
  .rw[cond_neg aI,az D];have w:(qt d).length<=256:=by have:=Iu (d:=d);omega
   obtain⟨F,_,_⟩:=EA (Cp A) Ol w
   exact h15b z A (by simp[qt]) af (λx K=>by
    obtain⟨t,I,rfl⟩:=aG.1 (gB.1 K)
    have:=VB (A.name t I);omega) (Ds l) (Rz F (Ds l)) af _ 0 [] rfl ai af (by simp[mO]) (λq H=>by cases H)
 grind
end Go.Proofs.YthphfjcnkinkpaaGreatDoor.cl
namespace Go.Proofs.YthphfjcnkinkpaaGreatDoor.cl
open Go Go.AM
end Go.Proofs.YthphfjcnkinkpaaGreatDoor.cl
namespace Go.Proofs.YthphfjcnkinkpaaGreatDoor.cl
open Go Go.AM
noncomputable def bn (d:List aC) (w:Nat):List cn:=(bitsOf w).map λi=>(iQ d).getD i []
noncomputable def nmW (d:List aC) (w:Nat):cn:=EW d (iQ d) (qt d) w
def Tp {d:List aC} {w:Nat}:∀(ss:List cn) (q:List Nat) (i:Nat) (l:List cn) (k:Nat),ss.length=q.length->jf (λc=>c==w) q i=(k:Int)->i<=k/\ss[k-i]? =some (mU d w ss q i l):=by intro ss;induction ss with
 |nil=>intro q i l k z h;have :=kG.1 z.symm;subst this;have D:(-1:Int)=(k):=h;omega
 |cons s ss B=>intro q i l k z h;cases q with
  |nil=>simp at z
  |cons c q=>
   rw[jf] at h;simp[mU];by_cases e:c=w
   .grind
   .rw[show(c==w)=false by simp_all] at h;rw[az e];obtain⟨F,G⟩:=B _ _ _ k (by simp_all) h;refine⟨af,?_⟩;rw[show k-i=(k-(i+1))+1 by omega,rS];omega
def Pm {d:List aC} {w:Nat}:∀(ss:List cn) (q:List Nat) (i:Nat) (l:List cn),ss.length=q.length->(∀c∈q,c≠w)->mU d w ss q i l=yw [38] (wj d (l++((List.range ss.length).filter λj=>w.testBit (i+j)).map λj=>ss.getD j [])):=by intro ss;induction ss with
 |nil=>grind[mU]
 |cons s ss D=>intro q i l B h;cases q with
  |nil=>simp at B
  |cons c q=>
   simp only[mU];rw[bD,List.range_succ_eq_map];have e:((List.range ss.length).filter ((λj=>w.testBit (i+j))∘Nat.succ)).map ((λj=>(s::ss).getD j [])∘Nat.succ)=((List.range ss.length).filter λj=>w.testBit (i+1+j)).map λj=>ss.getD j []:=by
    have e1:((λj=>w.testBit (i+j))∘Nat.succ)=λj=>w.testBit (i+1+j):=by funext j;simp;congr 1;omega
    have z:((λj=>(s::ss).getD j [])∘Nat.succ)=λj=>ss.getD j _:=rfl
    rw[e1,z]
   grind
theorem N4 {w n:Nat} (B:n<=64) (h:∀i,w.testBit i=true->i<n):bitsOf w=(List.range n).filter w.testBit:=by
 unfold bitsOf;have z:=wM (n:=n) (m:=64-n)
 have:List.filter w.testBit (List.map (n+ ·) (List.range (64-n)))=[]:=by rw[y6];intro j q l;obtain⟨i,_,rfl⟩:=aG.1 q;have:=h _ l;omega
 simp_all
structure Dn (d:List aC) (w:Nat):Prop where
 lt:∀i,w.testBit i=true->i<(iQ d).length
 dn:∀i j,i<(iQ d).length->j<(iQ d).length->w.testBit i=true->Le d ((iQ d).getD i []) ((iQ d).getD j [])->w.testBit j=true
def aba {d:List aC} (x:cn):Dn d (cw d (iQ d) x):=
 ⟨λi h=>(zH.1 h).1,λi j w l h q=>zH.2 ⟨l,qG.trans (zH.1 h).2 q⟩⟩
def dn_and {d:List aC} {a b:Nat} (l:Dn d a) (B:Dn d b):Dn d (a&&&b):=by
 refine⟨λi h=> ?_,λi j q w h z=> ?_⟩
 .rw[lS,aV] at h;exact l.lt i h.1
 .rw[lS,aV] at h⊢;exact⟨l.dn i j q w h.1 z,B.dn i j q w h.2 z⟩
theorem zS {w i:Nat} (l:w<18446744073709551616):i∈bitsOf w↔w.testBit i=true:=by unfold bitsOf;rw[c7,gU];refine⟨λh=>h.2,λh=>⟨?_,h⟩⟩;apply fh;intro q;rw[zh (fH l (uU (n:=2) (i:=64) af af))] at h;cases h
theorem bn_SS {d:List aC} {w:Nat} (h:∀i,w.testBit i=true->i<(iQ d).length):SS (bn d w):=by have G:=nQ.1 (mz (ku d));unfold bn SS;rw[jd];have F:(bitsOf w).Pairwise _:=(List.pairwise_lt_range).sublist zj;refine F.imp_of_mem ?_;intro a b l B z;have q:=h a (c7.1 l).2;have D:=h b (c7.1 B).2;simp_all
def aaK {d:List aC} {w:Nat} (h:∀i,w.testBit i=true->i<(iQ d).length):∀x∈bn d w,x∈ku d:=by intro x q;obtain⟨i,l,rfl⟩:=aG.1 q;exact SC (h i (c7.1 l).2)
def II {d:List aC} {w:Nat} (h:∀i,w.testBit i=true->i<(iQ d).length):wj d (bn d w)=(bn d w).filter (sj d (bn d w)):=by
 have q:(bn d w).filter (λs=>decide _)=bn d w:=y4.2 λx l=>by simpa using aaK h x l
 grind[SS.ext,mz,bn_SS,gB,wj]
theorem Cu {d:List aC} {l:List cn} {x:cn}:sj d l x=true↔∀y∈l,Le d y x->y=x:=by unfold sj;grind
theorem Ge {d:List aC} (A:Acc d) {l:List cn}:∀x∈l,∃m∈l.filter (sj d l),Le d m x:=by
 obtain⟨r,B⟩:=A.rk;have key:∀(n) (x),r x=n->x∈l->∃m∈l.filter (sj d l),Le d m x:=by intro n;induction n using Nat.strongRecOn with
  |_ n I=>
   intro x e D;by_cases q:sj d l x=true
   .exact⟨x,c7.2 ⟨D,q⟩, .refl⟩
   .rw[Cu] at q;obtain⟨y,F⟩:=Classical.not_forall.1 q;obtain⟨G,w⟩:=Classical.not_imp.1 F;obtain⟨z,H⟩:=Classical.not_imp.1 w
    have:r y<r x:=by
     rcases Pb B z with h|h
     .simp_all
     .exact h
    grind[qG.trans]
 simp_all
def UQ {d:List aC} {w:Nat} (z:w<18446744073709551616) (D:Dn d w) {i:Nat} (B:i<(iQ d).length):w.testBit i=true↔(iQ d).getD i []∈bn d w:=by
 unfold bn;rw[aG];constructor
 .intro h;exact⟨i,(zS z).2 h,rfl⟩
 .rintro⟨j,F,e⟩;have l:=(zS z).1 F;have q:=D.lt j l;rw[bA,bA,aM B,aM q] at e;have:=(rU (mz _).nodup).1 e;simp_all
theorem adr {d:List aC} (A:Acc d) {w v:Nat} (I:w<18446744073709551616) (H:v<18446744073709551616) (B:Dn d w) (z:Dn d v) (h:wj d (bn d w)=wj d (bn d v)):w=v:=by
 have key:∀{w v:Nat},w<18446744073709551616->v<18446744073709551616->Dn d w->Dn d v->wj d (bn d w)=wj d (bn d v)->∀i,w.testBit i=true->v.testBit i=true:=by intro w v I H B z h i F;have l:=B.lt i F;obtain⟨m,G,L⟩:=Ge A _ ((UQ I B l).1 F);rw[<-II B.lt,h,II z.lt] at G;have D:=(c7.1 G).1;obtain⟨j,K,rfl⟩:=aG.1 D;have q:=(zS H).1 K;exact z.dn j i (z.lt j q) l q L
 apply uT;grind
def X8 {d:List aC} (A:Acc d) (B:d.length<=64) {x:cn} (I:x∈ku d):wj d (bn d (cw d (iQ d) x))=[x]:=by
 have F:=oV (d:=d);have w:cw d (iQ d) x<18446744073709551616:=aa8 af;have D:=aba (d:=d) x;rw[II D.lt];have l:∀y,y∈(bn d (cw d (iQ d) x)).filter (sj d (bn d (cw d (iQ d) x)))↔y∈[x]:=by
  intro y;have K:x∈bn d (cw d (iQ d) x):=by obtain⟨i,q,e⟩:=OL I;have h:=(UQ w D q).1 (zH.2 ⟨q,by rw[e];exact .refl⟩);rw[e] at h;exact h
  have H:∀z∈bn d (cw d (iQ d) x),Le d x z:=by intro z L;obtain⟨j,G,rfl⟩:=aG.1 L;exact(zH.1 ((zS w).1 G)).2
  rw[c7,Cu];constructor
  .simp_all
  .grind[le_antisymm]
 refine SS.ext ?_ (by simp[SS]) l;exact(bn_SS D.lt).sublist zj
def S3 {s:cn} (h:isName s=true):(38:UInt8)∉s:=by unfold isName at h;grind[pq,DC]
def cut38:∀{x l t q:cn},(38:UInt8)∉x->(38:UInt8)∉l->(t=[]\/∃u,t=38::u)->(q=[]\/∃u,q=38::u)->x++t=l++q->x=l/\t=q:=by intro x;induction x with
 |nil=>intro l t q w z B D h;cases l with
  |nil=>simp_all
  |cons c l=>simp_all
 |cons c x F=>intro l t q w z B D h;cases l with
  |nil=>grind
  |cons c' l=>grind
def FJ (l:List cn):wF l=[]\/∃u,wF l=38::u:=by cases l with
 |nil=>exact .inl rfl
 |cons x l=>simp_all[wF]
theorem aab:∀{l q:List cn},(∀x∈l,(38:UInt8)∉x)->(∀x∈q,(38:UInt8)∉x)->wF l=wF q->l=q:=by intro l;induction l with
 |nil=>intro q _ _ h;cases q with
  |nil=>rfl
  |cons x q=>simp[wF] at h
 |cons x l B=>intro q w z h;cases q with
  |nil=>simp[wF] at h
  |cons D q=>
   have e:∀(y) (m),wF (y::m)=38::(y++wF m):=λy m=>by rfl
   rw[e,e,cV] at h;obtain⟨a,b⟩:=cut38 (w x ai) (z _ ai) (FJ l) (FJ _) h.2;grind
theorem ZG {l q:List cn} (D:l≠[]) (B:q≠[]) (w:∀x∈l,(38:UInt8)∉x) (z:∀x∈q,(38:UInt8)∉x) (h:yw [38] l=yw [38] q):l=q:=by cases l with
 |nil=>simp_all
 |cons x l=>cases q with
  |nil=>simp_all
  |cons F q=>rw[DB,DB] at h;obtain⟨a,b⟩:=cut38 (w x ai) (z _ ai) (FJ l) (FJ _) h;grind[aab]
def abx {d:List aC} {i:Nat} (l:i<(iQ d).length):(qt d)[i]? =some (cw d (iQ d) ((iQ d).getD i [])):=by simp_all[qt]
def abX {l:Type} (p:l->Bool):∀(xs:List l) (i k:Nat),jf p xs i=(k:Int)->i<=k/\∃x,xs[k-i]? =some x/\p x=true:=by intro xs;induction xs with
 |nil=>intro i k h;have q:(-1:Int)=(k):=h;omega
 |cons x xs w=>intro i k h;rw[jf] at h;grind
def nmW_out {d:List aC} (l:d.length<=64) {w:Nat} (D:Dn d w) (h:∀c∈qt d,c≠w):nmW d w=yw [38] (wj d (bn d w)):=by have q:=oV (d:=d);unfold nmW EW;rw[Pm _ _ _ _ (by simp[qt]) h,bn,N4 af D.lt];simp
def Wh {d:List aC} (A:Acc d) (l:d.length<=64) {w:Nat} (D:Dn d w):nmW d w=yw [38] (wj d (bn d w)):=by
 by_cases h:∀c∈qt d,c≠w
 .exact nmW_out l D h
 .have K:¬jf (λc=>c==w) (qt d) 0<0:=by
   rw[abY];intro N;exact h λc I=>by simp_all
  obtain⟨k,G⟩:∃k:Nat,jf (λc=>c==w) (qt d) 0=(k):=⟨(jf (λc=>c==w) (qt d) 0).toNat,af⟩
  obtain⟨_,e⟩:=Tp (iQ d) _ 0 _ k (by simp[qt]) G;obtain⟨_,c,z,H⟩:=abX _ _ _ _ G;rw[uW] at e z;have q:=(bR.1 e).1;rw[abx q] at z;have B:cw d (iQ d) ((iQ d).getD k [])=w:=by rw[<-(ja.1 H)];exact fR z
  have F:(iQ d).getD k []=nmW d w:=by rw[bA,e];rfl
  rw[F] at B;have L:nmW d w∈ku d:=by rw[<-F];exact SC q
  have:=X8 A l L;rw[B] at this;rw[this];rfl
def nmW_inj {d:List aC} (A:Acc d) (l:d.length<=64) {w v:Nat} (B:w<18446744073709551616) (P:v<18446744073709551616) (N:w≠0) (L:v≠0) (G:Dn d w) (F:Dn d v) (h:nmW d w=nmW d v):w=v:=by
 rw[Wh A l G,Wh A l F] at h;have ne:∀{w:Nat},w<18446744073709551616->w≠0->Dn d w->wj d (bn d w)≠[]:=by intro w B H D I;obtain⟨i,q⟩:=Nat.exists_testBit_of_ne_zero H;obtain⟨m,z,_⟩:=Ge A _ ((UQ B D (D.lt i q)).1 q);rw[<-II D.lt,I] at z;cases z
 have fr:∀{w:Nat},Dn d w->∀x∈wj d (bn d w),(38)∉x:=by intro w D x O;obtain⟨t,K,rfl⟩:=aG.1 (aaK D.lt x (Ti O));exact S3 (A.name t K)
 grind[adr,ZG]
end Go.Proofs.YthphfjcnkinkpaaGreatDoor.cl
namespace Go.Proofs.YthphfjcnkinkpaaGreatDoor.cl
open Go Go.AM
def o31 {w v:Nat} (q:w<18446744073709551616) (l:v<18446744073709551616):f31 (e1 w) (e1 v)=some (decide (w=v)):=by
 refine e31 ?_;rw[o63 q l,aj,o63 l q,aj];by_cases h:w=v
 .subst h;rw[yO];simp
 .cases z:sub w v with
  |false=>simp[h]
  |true=>cases B:sub v w with
   |false=>simp[h]
   |true=>exact absurd (sP z B) h
def abq {d:List aC} (A:Acc d) (q:d.length<=64):Fm (qt d) (AZ (qt d))/\∀w∈AZ (qt d),Dn d w:=by
 have l:(qt d).length<=256:=by have:=Iu (d:=d);omega
 obtain⟨F,_,_⟩:=EA (Cp A) Ol l
 exact⟨F,F.gen (Dn d) (λc z=>by
  obtain⟨x,_,rfl⟩:=aG.1 z
  exact aba x) (λa b=>dn_and)⟩
def Tr {d:List aC} (A:Acc d) (l:d.length<=64):((eS d).map (·.1)).Nodup:=by obtain⟨F,D⟩:=abq A l;have z:=(Cr (d:=d)).2.map (·.1);rw[e8] at z;refine z.nodup_iff.2 (Nl F.nd λx q y w h=> ?_);exact nmW_inj A l (Rz F (Ds l) x q) (Rz F (Ds l) y w) (F.nz x q) (F.nz y w) (D x q) (D y w) h
def adJ {D:Type} {l:List D} (h:l.Nodup) {i k:Nat} (z:i<l.length) (B:k<l.length) (e:l[i]=l[k]):i=k:=by
 have w:=nQ.1 h;rcases zk i k with q|q|q
 .exact absurd e (w i k z B q)
 .exact q
 .exact absurd e.symm (w k i B z q)
structure Ok (d:List aC):Prop where
 z:Sz d
 acc:Acc d
 len:d.length<=64
 le:(AZ (qt d)).length<=256
noncomputable def tys (d:List aC):List Nat:=(eS d).map (·.2)
noncomputable def zF (d:List aC):List fO:=(eS d).map Ij
def oc {d:List aC}:(zF d).length=(tys d).length:=by simp[tys,zF]
def Ok.Vs {d:List aC} (h:Ok d):aav (tys d):=cl.Vs h.acc h.len h.le
def Ok.cd {d:List aC} (h:Ok d):Cd (zF d) (tys d):=cd_ents h.acc h.len h.le
def Ok.cG {d:List aC} (h:Ok d):(tys d).length<=256:=by have:=(Cq (d:=d)).length_eq;rw[tys,this];exact h.le
def Ok.lt {d:List aC} (h:Ok d) {i:Nat} (l:i<(tys d).length):(tys d).getD i 0<18446744073709551616:=h.cd.get l
noncomputable abbrev cwd (d:List aC) (x:cn):Nat:=cw d (iQ d) x
def Ok.cwlt {d:List aC} (h:Ok d) (x:cn):cwd d x<18446744073709551616:=aa8 (by have:=oV (d:=d);have:=h.len;omega)
def aa7 {d:List aC} (A:Acc d) (l:d.length<=64) {x:cn} (w:x∈ku d):cwd d x∈AZ (qt d):=by obtain⟨F,D⟩:=abq A l;obtain⟨e,q⟩:=F.pre;rw[q];refine cO _ (aG.2 ⟨x,?_,rfl⟩);exact gB.2 w
def Ok.cwmem {d:List aC} (h:Ok d) {x:cn} (l:x∈ku d):cwd d x∈tys d:=(Cq (d:=d)).mem_iff.2 (aa7 h.acc h.len l)
def Ok.entmem {d:List aC} (h:Ok d) {x:cn} (l:x∈ku d):((x,cwd d x):DW)∈eS d:=by
 refine(Cr (d:=d)).2.mem_iff.2 (aG.2 ⟨cwd d x,aa7 h.acc h.len l,?_⟩)
 have:nmW d (cwd d x)=x:=by rw[Wh h.acc h.len (aba x),X8 h.acc h.len l];rfl
 show(nmW d (cwd d x),cwd d x)=_;rw[this]
noncomputable def nu (d:List aC) (x:cn):Nat:=(jf (λc:fO=>c.Name==x) (zF d) 0).toNat
theorem Ok.zV {d:List aC} (h:Ok d) {x:cn} (Q:x∈ku d):jf (λc:fO=>c.Name==x) (zF d) 0=(nu d x:Int)/\nu d x<(tys d).length/\(tys d).getD (nu d x) 0=cwd d x/\∃R:nu d x<(zF d).length,(zF d)[nu d x].Name=x:=by
 have l:=h.entmem Q;obtain⟨j,F,e⟩:=XG (λc:fO=>c.Name==x) (zF d) 0 ⟨Ij (x,cwd d x),aG.2 ⟨_,l,rfl⟩,by simp[Ij]⟩;have B:jf (λc:fO=>c.Name==x) (zF d) 0=(j:Int):=by have:=e.1;simpa using this
 have K:nu d x=j:=by unfold nu;rw[B];simp
 obtain⟨_,c,N,w⟩:=abX _ _ _ _ B;obtain⟨p,P,z⟩:=jw.1 l;have q:j<(eS d).length:=by simpa[zF] using F
 rw[uW,zF,dK,aM q] at N;have D:(eS d)[j].1=x:=by have O:c=Ij (eS d)[j]:=(fR N).symm;rw[O] at w;exact ja.1 w
 have I:=Tr h.acc h.len;have H:j=p:=by
  have G:j<((eS d).map (·.1)).length:=by simpa using q
  have L:p<((eS d).map (·.1)).length:=by simpa using P
  refine adJ I G L ?_;rw[kF,kF,D,z]
 rw[K];refine⟨B,by rw[<-oc];exact F,?_,F,by simpa using e.2.1⟩;subst H;show((eS d).map (·.2)).getD j 0=_;rw[bA,dK,aM q,z];rfl
def Tq {d:List aC} {t:aC} (h:t∈d):t.Name∈ku d:=aG.2 ⟨t,h,rfl⟩
end Go.Proofs.YthphfjcnkinkpaaGreatDoor.cl
namespace Go.Proofs.YthphfjcnkinkpaaGreatDoor.cl
open Go Go.AM
def Ce (c:UInt8):Bool:=decide (65<=c.toNat)&&decide (c.toNat<=90)
def vX (s:cn):Bool:=decide (1<=s.length)&&decide (s.length<=32)&& !pq (s.getD 0 0)&& !(s.getD 0 0).toNat==45&&s.all λc=>pq c||c.toNat==45||Ce c
def c166 (c:UInt8):f166 (c.toNat:Int)=some (Ce c):=by
 refine e166 ?_;by_cases h:65<=c.toNat
 .rw[cond_pos aI];simp only[Ce,h,decide_true,iF];congr 1;rw[uV];omega
 .rw[cond_neg aI];simp[Ce,h]
def c160t (c:UInt8):f160 (c.toNat:Int) true=some (pq c||c.toNat==45||Ce c):=by refine e160 ?_;rw[c159,aj,c166,aj];cases pq c with
 |true=>rfl
 |false=>
  by_cases h:c.toNat=45
  .rw[aA,cond_pos aI];simp[h]
  .rw[aA,cond_neg aI];cases Ce c<;>simp[h]
def h140t (s:cn) (l:s.length<=1073741824):∀(xs:cn) (i:Nat),s.drop i=xs->Lc s true i=some (xs.all λc=>pq c||c.toNat==45||Ce c):=by intro xs;induction xs with
 |nil=>intro i h;refine OO ?_;rw[aW h];rfl
 |cons x xs q=>intro i h;refine OO ?_;rw[aP h,ak,aJ h,c160t,aj,aN h l,q (i+1) (aH h),lZ];cases(pq x||x.toNat==45||Ce x)<;>rfl
def c372 (s:cn):f372 s=some (vX s):=by
 refine e372 ?_
 have:f140 s true=some (vX s):=by
  refine e140 ?_;by_cases l:1<=s.length
  .rw[cond_neg aI];by_cases q:s.length<=32
   .rw[cond_neg aI,show(0:Int)=((0:Nat):Int) from rfl,bU af,c159,aj,bU af,h140t s af s 0 rfl];have z:s.getD 0 0=s[0]:=by rw[bA,aM af];rfl
    unfold vX;rw[z];cases pq s[0] with
    |true=>simp[l,q]
    |false=>
     by_cases w:s[0].toNat=45
     .rw[aA,cond_pos aI];simp[w]
     .rw[aA,cond_neg aI];simp[l,q,w]
   .rw[cond_pos aI];simp[vX,q]
  .rw[cond_pos aI];simp[vX,l]
 rw[this];rfl
def Fz (d:List aC):Prop:=∀t∈d,t.bC.length<=1048576
def val (t:aC) (F:cn):Option cn:=(t.bC.find? λx=>x.bw==F).map (·.Value)
def h373 (t:aC) (F:cn) (q:t.bC.length<=1048576):∀(xs:List dP) (i:Nat),t.bC.drop i=xs->
  Qn F i t=some (match xs.find? λx=>x.bw==F with|some x=>(x.Value,true)|none=>([],false)):=by
 intro xs;induction xs with
 |nil=>intro i h;refine acy ?_;rw[aW h];rfl
 |cons x xs l=>intro i h;refine acy ?_;rw[aP h,ak,aJ h,aJ h,aN h af,l (i+1) (aH h),kH];cases x.bw==F<;>rfl
def c373 (t:aC) (F:cn) (l:t.bC.length<=1048576):f373 t F=some (match val t F with|some v=>(v,true)|none=>([],false)):=by refine e373 ((h373 t F l t.bC 0 rfl).trans ?_);rw[val];cases t.bC.find? λx=>x.bw==F<;>rfl
def aeo {t:aC} {F v:cn} (h:val t F=some v):∃x∈t.bC,x.bw=F/\x.Value=v:=by unfold val at h;obtain⟨x,l,rfl⟩:=cH.1 h;exact⟨x,lR l,by simpa using nN l,rfl⟩
abbrev fns (t:aC):List cn:=t.bC.map (·.bw)
def fal (d:List aC):List cn:=d.flatMap fns
def qA (d:List aC):List cn:=oO (fal d)
def h345b {d:List aC} {i:Nat} {t:aC} (q:d[i]? =some t) (F:t.bC.length<=1048576) {r:List cn}:∀(xs:List dP) (k:Nat) (o:List cn),t.bC.drop k=xs->o.length<=1072000000+k->
  Lh d ((xs.map (·.bw)).foldl (λo s=>qU s o) o) (i+1:Nat)=some r->i<1000000->Qe d o i k=some r:=by
 intro xs;induction xs with
 |nil=>intro k o h z w l;refine acj ?_;rw[gM q,aW h,aA,bM af];exact w
 |cons x xs B=>intro k o h z w l;refine acj ?_;have D:=dN h;have G:=nD x.bw o;rw[gM q,aP h,ak,gM q,aJ h,c98 _ _ af,aj,aN h af];exact B (k+1) _ (aH h) af w l
def h345 {d:List aC} (I:d.length<=1000) (z:Fz d):∀(xs:List aC) (i:Nat) (o:List cn),d.drop i=xs->o.length<=1048576 *i->Lh d o i=some ((fal xs).foldl (λo s=>qU s o) o):=by intro xs;induction xs with
 |nil=>intro i o h B;refine aci ?_;rw[aW h];rfl
 |cons t xs w=>
  intro i o h B;refine aci ?_;have H:=dN h;have D:=z t (aR (bV h));rw[aP h,ak];refine h345b (bV h) D t.bC 0 o rfl af ?_ af;have q:(((fns t)).foldl (λo s=>qU s o) o).length<=o.length+(fns t).length:=by
   have:∀(l o:List cn),(l.foldl (λo s=>qU s o) o).length<=o.length+l.length:=by intro l;induction l with
    |nil=>intro o;simp
    |cons a l w=>intro o;have F:=nD a o;have G:=w (qU a o);rw[gx,bD];omega
   exact this _ _
  rw[bz] at q;rw[w (i+1) ((fns t).foldl (λo s=>qU s o) o) (aH h) af];unfold fal;rw[rX,List.foldl_append]
def c345 {d:List aC} (q:d.length<=1000) (l:Fz d):f345 d=some (qA d):=e345 (h345 q l d 0 [] rfl ai)
def Vi (w:List cn):List cn->List dP->Int
 |_,[]=>0
 |q,x::l=>if vX x.bw=false then 1 else if x.bw∈q then 4 else if x.Value∈w then Vi w (q++[x.bw]) l else 5
def sg (l:List cn):List aC->Int
 |[]=>0
 |t::d=>if Vi l [] t.bC=0 then sg l d else Vi l [] t.bC
def abr (F:List cn):∀(l:List dP) (q:List cn),Vi F q l=0↔(∀x∈l,vX x.bw=true/\x.Value∈F)/\(l.map (·.bw)).Nodup/\∀x∈l,x.bw∉q:=by intro l;induction l with
 |nil=>intro q;simp[Vi]
 |cons x l I=>intro q;unfold Vi;cases G:vX x.bw with
  |false=>simp[G]
  |true=>
   rw[az ai];by_cases B:x.bw∈q
   .rw[aB B];simp[B]
   .rw[az B];by_cases D:x.Value∈F
    .rw[aB D,I];constructor
     .rintro⟨a,b,c⟩;refine⟨λy w=> ?_,?_,λy w=> ?_⟩
      .rcases aS.1 w with rfl|w
       .exact⟨G,D⟩
       .exact a y w
      .rw[bS,gy];refine⟨λH=> ?_,b⟩;obtain⟨y,w,e⟩:=aG.1 H;exact c y w (by rw[e];simp)
      .rcases aS.1 w with rfl|w
       .exact B
       .exact λz=>c y w (by simp[z])
     .rintro⟨a,b,c⟩;rw[bS,gy] at b;refine⟨λy w=>a y (by simp[w]),b.2,λy w z=> ?_⟩;rcases bu.1 z with z|z
      .exact c y (by simp[w]) z
      .exact b.1 (aG.2 ⟨y,w,by simpa using z⟩)
    .rw[az D];constructor
     .intro h;cases h
     .rintro⟨a,_⟩;exact absurd (a x ai).2 D
def Vh (w:List cn):∀(d:List aC),sg w d=0↔∀t∈d,(∀x∈t.bC,vX x.bw=true/\x.Value∈w)/\(fns t).Nodup:=by intro d;induction d with
 |nil=>simp[sg]
 |cons t d B=>
  unfold sg;have z:=abr w t.bC [];by_cases h:Vi w [] t.bC=0
  .rw[aB h,B];obtain⟨a,b,_⟩:=z.1 h;constructor
   .intro l u q;rcases aS.1 q with rfl|q
    .exact⟨a,b⟩
    .exact l u q
   .exact λl u q=>l u (by simp[q])
  .rw[az h];constructor
   .intro l;exact absurd l h
   .intro l;obtain⟨a,b⟩:=l t ai;exact absurd (z.2 ⟨a,b,λx _=>by simp⟩) h
def h346c {d:List aC} {all:List cn} (q:all.length<=1073741824) {i k:Nat} {l:List dP} (H:l.length<=1048576) (z:k<l.length) {r:Int}
  (F:(if l[k].Value∈all then Lj d all i l (k+1:Nat) else some 5)=some r):∀(n m:Nat),k-m=n->m<=k->
  IU d all i l k m=some (if l[k].bw∈((l.take k).drop m).map (·.bw) then 4 else r):=by
 intro n;induction n with
 |zero=>
  intro m B w
  have:m=k:=af
  subst this;refine XM ?_;rw[cond_neg ai,bU z,c37 _ _ q,aj];have e:(l.take m).drop m=[]:=by rw[List.drop_eq_nil_iff,e7];omega
  rw[e,az ai,<-F,bM af];by_cases h:l[m].Value∈all
  .rw[aB h,cond_neg (by simpa using h)]
  .rw[az h,cond_pos (by simpa using h)]
 |succ n G=>
  intro m B w;have D:m<k:=af;refine XM ?_;rw[cond_pos aI,bU af,bU z,bM af,G (m+1) af af];have e:(l.take k).drop m=l[m]::(l.take k).drop (m+1):=by rw[iH (by rw[e7];omega),List.getElem_take]
  rw[e,bS];by_cases h:l[m].bw=l[k].bw
  .rw[cond_pos (by simpa using h),aB (by rw[h];simp)]
  .rw[cond_neg (by simpa using h)];simp only[aS,eL h,false_or]
def h346b {d:List aC} {all:List cn} (w:all.length<=1073741824) {i:Nat} (N:i<1000000) {l:List dP} (G:l.length<=1048576) {r:Int} (H:Li d all (i+1:Nat)=some r):∀(xs:List dP) (k:Nat),l.drop k=xs->
  Lj d all i l k=some (if Vi all ((l.take k).map (·.bw)) xs=0 then r else Vi all ((l.take k).map (·.bw)) xs):=by
 intro xs;induction xs with
 |nil=>intro k h;refine acm ?_;rw[aW h,aA,bM af,H];rfl
 |cons x xs K=>
  intro k h;refine acm ?_;have F:=dN h;have D:l[k]=x:=(bR.1 (bV h)).2;have B:(l.take k).map (·.bw)++[x.bw]=(l.take (k+1)).map (·.bw):=by rw[cM,bV h];simp
  rw[aP h,ak,aJ h,c372,aj];unfold Vi;cases L:vX x.bw with
  |false=>rfl
  |true=>
   rw[dS,aA];rw[az (by simp:¬(true=false)),B];have I:=K (k+1) (aH h)
   rw[show(0:Int)=((0:Nat):Int) from rfl,h346c w G F (r:=if x.Value∈all then(if Vi all ((l.take (k+1)).map (·.bw)) xs=0 then r else Vi all ((l.take (k+1)).map (·.bw)) xs) else 5) (by
    rw[D];by_cases q:x.Value∈all
    .rw[aB q,aB q];exact I
    .rw[az q,az q]) _ 0 rfl af,nR,D]
   by_cases z:x.bw∈(l.take k).map (·.bw)
   .rw[aB z,aB z];rfl
   .rw[az z,az z];by_cases q:x.Value∈all
    .rw[aB q,aB q];rfl
    .rw[az q,az q];rfl
def h346 {d:List aC} (B:d.length<=1000) (q:Fz d) {all:List cn} (l:all.length<=1073741824):∀(xs:List aC) (i:Nat),d.drop i=xs->Li d all i=some (sg all xs):=by intro xs;induction xs with
 |nil=>intro i h;refine ack ?_;rw[aW h];rfl
 |cons t xs z=>intro i h;refine ack ?_;have D:=dN h;have w:=q t (aR (bV h));rw[aP h,ak,aJ h,show(0:Int)=((0:Nat):Int) from rfl,h346b l af w (z (i+1) (aH h)) t.bC 0 rfl];rfl
def Zl {w ms:List cn} (h:∀x,x∈w↔x∈ms):∀(l:List dP) (q:List cn),Vi w q l=Vi ms q l:=by intro l;induction l with
 |nil=>intro _;rfl
 |cons x l z=>intro q;unfold Vi;rw[z];simp only[h x.Value]
def Sq {l ms:List cn} (h:∀x,x∈l↔x∈ms):∀(d:List aC),sg l d=sg ms d:=by intro d;induction d with
 |nil=>rfl
 |cons t d q=>unfold sg;rw[q,Zl h]
def c346 {d:List aC} (q:d.length<=1000) (w:Fz d):f346 d=some (sg (ku d) d):=by refine e346 ?_;have l:=qp (ku d);rw[bz] at l;rw[c52 d af,aj,show(0:Int)=((0:Nat):Int) from rfl,h346 q w af d 0 rfl,Sq (λx=>gB)]
