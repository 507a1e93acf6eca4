/- Chains. -/
import Derived.Test.YthppjmoncapdfaaGreatDoorClXl
set_option linter.all false
open List (replicate)
namespace Go.Proofs.YthppjmoncapdfaaGreatDoor.cl.pf
open Go Go.AM
def rP:Nat->List Int->Int->List Node
 |_,[],t=>[⟨t,[]⟩]
 |k,f::π,t=>⟨0,[⟨f,(k+1:Nat)⟩]⟩::rP (k+1) π t
def mK (π:List Int) (t:Int):FSt:=⟨rP 0 π t⟩
def sd:∀(k:Nat) (π:List Int) (t:Int),(rP k π t).length=π.length+1
 |_,[],_=>rfl
 |k,f::π,t=>by simp only[rP,aT,sd (k+1) π t]
def eG (π:List Int) (t:Int):(mK π t).au.length=π.length+1:=sd 0 π t
def oP:∀(k:Nat) (π:List Int) (t:Int) (i:Nat),(rP k π t)[i]? =if h:i<π.length then some ⟨0,[⟨π[i],(k+i+1:Nat)⟩]⟩ else if i=π.length then some ⟨t,[]⟩ else none
 |k,[],t,0=>by simp[rP]
 |k,[],t,i+1=>by simp[rP]
 |k,f::π,t,0=>by simp[rP]
 |k,f::π,t,i+1=>by
  simp only[rP,p9,oP (k+1) π t i,aT,Nat.add_lt_add_iff_right,List.getElem_cons_succ,Nat.add_right_cancel_iff];by_cases h:i<π.length
  .simp only[h,dite_true];congr 4;omega
  .simp only[h,dite_false]
def uX {π:List Int} {t:Int} {i:Nat} (h:i<π.length):j9 (mK π t) i=[(π[i],i+1)]:=by
 unfold j9
 have:(mK π t).au[i]? =some ⟨0,[⟨π[i],(0+i+1:Nat)⟩]⟩:=by show(rP 0 π t)[i]? =_;rw[oP,iX h]
 rw[this];simp[NB]
def mB {π:List Int} {t:Int}:j9 (mK π t) π.length=[]:=by
 unfold j9
 have:(mK π t).au[π.length]? =some ⟨t,[]⟩:=by show(rP 0 π t)[π.length]? =_;rw[oP,dif_neg (Nat.lt_irrefl _),ak rfl]
 rw[this];rfl
def Of {π:List Int} {t:Int} {i:Nat} (h:i<π.length):qT (mK π t) i=0:=by
 unfold qT
 have:(mK π t).au[i]? =some ⟨0,[⟨π[i],(0+i+1:Nat)⟩]⟩:=by show(rP 0 π t)[i]? =_;rw[oP,iX h]
 rw[this]
def wW {π:List Int} {t:Int}:qT (mK π t) π.length=t:=by
 unfold qT
 have:(mK π t).au[π.length]? =some ⟨t,[]⟩:=by show(rP 0 π t)[π.length]? =_;rw[oP,dif_neg (Nat.lt_irrefl _),ak rfl]
 rw[this]
def Lg:∀(k:Nat) (π:List Int) (t:Int),∀x∈rP k π t,∀a∈x.cG,0<=a.To
 |_,[],t,x,l,a,q=>by simp[rP] at l;subst l;cases q
 |k,f::π,t,x,l,a,q=>by
  simp only[rP,aD] at l;rcases l with rfl|l
  .simp at q;subst q;show 0<=((k+1:Nat):Int);omega
  .exact Lg (k+1) π t x l a q
def TE {T F:Nat} (hT:0<T) {π:List Int} {t:Int} (hπ:∀f∈π,0<=f/\f<(F:Int)) (ht:0<=t/\t<(T:Int)):GO T F (mC (mK π t)) (mK π t).au.length:=by
 rw[eG];refine⟨λi q p l=> ?_,λi q=> ?_,λi q p l=> ?_,λi q=> ?_⟩<;>by_cases h:i<π.length
 .have l:p∈j9 (mK π t) i:=l;rw[uX h] at l;simp at l;subst l;show i+1<_;omega
 .have l:p∈j9 (mK π t) i:=l;have e:i=π.length:=af;rw[e,mB] at l;cases l
 .show vK (j9 _ i);rw[uX h];exact xV _ _
 .have e:i=π.length:=af;show vK (j9 _ i);rw[e,mB];exact vK.nil
 .have l:p∈j9 (mK π t) i:=l;rw[uX h] at l;simp at l;subst l;exact hπ _ (bH h)
 .have l:p∈j9 (mK π t) i:=l;have e:i=π.length:=af;rw[e,mB] at l;cases l
 .show 0<=qT _ i/\qT _ i<_;rw[Of h];omega
 .have e:i=π.length:=af;show 0<=qT _ i/\qT _ i<_;rw[e,wW];exact ht
def Rt {π:List Int} {t:Int}:∀(j i k:Nat),π.length=i+j->j<k->mG (j9 (mK π t)) k i (List.range i)=List.range (π.length+1):=by intro j;induction j with
 |zero=>
  intro i k l q;have e:i=π.length:=af;obtain⟨k,rfl⟩:∃k',k=k'+1:=⟨k-1,af⟩
  rw[mG,az ah,e,mB,nq];rfl
 |succ j w=>
  intro i k l q;obtain⟨k,rfl⟩:∃k',k=k'+1:=⟨k-1,af⟩
  rw[mG,az ah,uX af,<-nq];exact w (i+1) k af af
def oy {T F:Nat} (hT:0<T) {π:List Int} {t:Int} (hπ:∀f∈π,0<=f/\f<(F:Int)) (ht:0<=t/\t<(T:Int)):Can T F (mK π t):=by refine Bz (by rw[eG];omega) (TE hT hπ ht) (Lg 0 π t) ?_;rw[eG];exact Rt π.length 0 _ af af
def Et {π:List Int} {t:Int}:∀(i:Nat),i<=π.length->wT (mK π t) (π.take i)=some i:=by intro i;induction i with
 |zero=>intro _;rfl
 |succ i l=>intro q;rw[cS,aW (by omega:i<π.length)];refine uU.2 ⟨i,l af,?_⟩;show NC (j9 _ i) _=_;rw[uX af];simp[NC]
def Rk {C:Gr} {n k:Nat} {π:List Int} (h:wq C n π=some k) (i:Nat):∃j,wq C n (π.take i)=some j/\wq C j (π.drop i)=some k:=by rw[<-kX i π,wU,bZ] at h;obtain⟨j,l,q⟩:=h;refine⟨j,l,q⟩
def Gl (C:Gr) (π:List Int) (i:Nat):Nat:=(wq C 0 (π.take i)).getD 0
def Jg {C:Gr} {k:Nat} {π:List Int} (h:wq C 0 π=some k) (i:Nat):wq C 0 (π.take i)=some (Gl C π i):=by obtain⟨j,l,_⟩:=Rk h i;unfold Gl;rw[l];rfl
def xH {C:Gr} {k:Nat} {π:List Int} (h:wq C 0 π=some k):Gl C π π.length=k:=by unfold Gl;rw[fF,h];rfl
def qv {C:Gr} (z:NF C) {k:Nat} {π:List Int} (h:wq C 0 π=some k) {i:Nat} (D:i<π.length):(π[i],Gl C π (i+1))∈C.sc (Gl C π i):=by have l:=Jg h (i+1);rw[cS,aW D] at l;obtain⟨j,q,w⟩:=uU.1 l;rw[Jg h i] at q;cases q;exact(qm (z _)).1 w
section
variable {T F:Nat} {sb:Int->Int->Prop} (hT:TO T sb) {π:List Int} {t:Int} (hπ:∀f∈π,0<=f/\f<(F:Int)) (ht:0<=t/\t<(T:Int))
include hT hπ ht
theorem Oe {C:FSt} (q:Can T F C):Le sb (mK π t) C↔∃k,wT C π=some k/\sb t (qT C k):=by
 have w:0<T:=af;have z:=oy (F:=F) w hπ ht;constructor
 .rintro⟨m,H⟩;have e:=Et (π:=π) (t:=t) π.length (aJ _);rw[fF] at e;refine⟨m π.length,HP z q H e,?_⟩;have:=(H.2 π.length (z.Qv (by rw[eG];omega))).1;have I:(mC (mK π t)).ty π.length=t:=wW;rw[I] at this;exact this
 .rintro⟨k,G,N⟩;refine⟨Gl (mC C) π,by simp[Gl,wq],λi K=> ?_⟩;have D:=z.QX K;rw[eG] at D;by_cases h:i<π.length
  .refine⟨?_,λp l=> ?_⟩
   .show sb (qT (mK π t) i) _;rw[Of h];have L:=K9 (λi _=>q.x5 i) _ 0 _ .root (Jg G i);have:=q.go.tp _ (q.QX L);exact hT.top this.1 this.2
   .have l:p∈j9 (mK π t) i:=l;rw[uX h] at l;simp at l;subst l;exact qv q.Gm G h
  .have e:i=π.length:=af;subst e;refine⟨?_,λp l=> ?_⟩
   .show sb (qT (mK π t) _) _;rw[wW,xH G];exact N
   .have l:p∈j9 (mK π t) π.length:=l;rw[mB] at l;cases l
end
def Rs {π:List Int} {t:Int} {P:List (List Int)} (h:∀i,i<=π.length->π.take i∈P):Sk (mK π t) P:=λk l=>by rw[eG] at l;exact⟨π.take k,h k af,Et k af⟩
def Dx (π:List Int) (t:Int):rP 0 π t=(rP 0 π t).take π.length++[⟨t,[]⟩]:=by
 have h:(rP 0 π t).drop π.length=[⟨t,[]⟩]:=by apply je;intro i;rw[qV,oP];cases i with
  |zero=>simp
  |succ i=>rw[dif_neg af,az af];simp
 rw[<-h,kX]
def c430 {p:List Int} (z:p.length<=1000000) (t:Int):f430 p ⟨[⟨t,[]⟩]⟩=some (mK p t):=by
 refine e430 ?_;have key:∀(k i:Nat),p.length=i+k->F6 p (i:Int) ⟨[⟨t,[]⟩]⟩ ⟨[]⟩ ((rP 0 p t).take i)=some (mK p t):=by intro k;induction k with
  |zero=>intro i q;have e:i=p.length:=af;subst e;refine Pz ?_;rw[cond_neg (by rw[bM];omega)];refine PA ?_;rw[cond_pos (by rfl),fU,fU];refine RQ ?_;rw[cond_neg (by rfl),cu _ (by rw[gB,sd];omega) ah af,<-Dx];refine PA ?_;rw[cond_neg (by rfl)];rfl
  |succ k w=>intro i q;have l:i<p.length:=af;refine Pz ?_;rw[cond_pos (by rw[bG];omega),eY l,cu _ (by rw[gB,sd];omega) ah af,cQ af];have:=w (i+1) af;rw[cS,oP,iX l] at this;simpa using this
 have:=key p.length 0 af;simpa using this
def Tx {p:List Int} (z:p.length<=1000000) (t:Int):f426 p ⟨[⟨t,[]⟩]⟩=some (mK p t):=by
 refine e426 ?_;have key:∀(k i:Nat),p.length=i+k->FZ p p (p.length:Int) (i:Int) ⟨[⟨t,[]⟩]⟩ ⟨[]⟩ ((rP 0 p t).take i)=some (mK p t):=by intro k;induction k with
  |zero=>intro i q;have e:i=p.length:=af;subst e;refine Pt ?_;rw[cond_neg (by rw[bM];omega)];refine Pu ?_;rw[cond_pos (by rfl),fU];refine RP ?_;rw[cond_neg (by rfl),cu _ (by rw[gB,sd];omega) ah af,<-Dx];refine Pu ?_;rw[cond_neg (by rfl)];rfl
  |succ k w=>intro i q;have l:i<p.length:=af;refine Pt ?_;rw[cond_pos (by rw[bG];omega),eY l,cu _ (by rw[gB,sd];omega) ah af,cQ af];have:=w (i+1) af;rw[cS,oP,iX l] at this;simpa using this
 have:=key p.length 0 af;simpa using this
end Go.Proofs.YthppjmoncapdfaaGreatDoor.cl.pf
namespace Go.Proofs.YthppjmoncapdfaaGreatDoor.cl.pf
open Go Go.AM
def I6 (a b:Int):Prop:=a=0/\b=0
def QZ:TO 1 I6:=⟨λh=>by have:=h.1;omega,λh=>by have:=h.2;omega,λh l=>⟨af,af⟩,λh l=>⟨h.1,l.2⟩,λh l=>by rw[h.1,h.2],λh l=>⟨rfl,af⟩⟩
def Can.up {T l F:Nat} {f:FSt} (h:Can T F f) (hT:T<=l):Can l F f:=
 ⟨h.ne,⟨h.go.bd,h.go.x5,h.go.ft,λn q=>⟨(h.go.tp n q).1,by have:=(h.go.tp n q).2;omega⟩⟩,h.eq⟩
structure Nt (F:Nat) (A B:List Int) (f:FSt):Prop where
 can:Can 1 F f
 at_:∃k,wT f A=some k/\wT f B=some k
 least:∀(C:FSt) (T':Nat) (sb:Int->Int->Prop),TO T' sb->Can T' F C->(∃k,wT C A=some k/\wT C B=some k)->Le sb f C
def Nt.uniq {F:Nat} {A B:List Int} {f g:FSt} (l:Nt F A B f) (q:Nt F A B g):f=g:=
 Le.anti QZ l.can q.can (l.least g 1 I6 QZ q.can q.at_) (q.least f 1 I6 QZ l.can l.at_)
def Nt.le {F T:Nat} {sb:Int->Int->Prop} (hT:TO T sb) {A B:List Int} {f C:FSt} (h:Nt F A B f) (l:1<=T) (q:Can T F C):Le sb f C↔∃k,wT C A=some k/\wT C B=some k:=by
 constructor
 .rintro⟨m,w⟩;obtain⟨k,z,D⟩:=h.at_;exact⟨m k,HP (h.can.up l) q w z,HP (h.can.up l) q w D⟩
 .exact h.least C T sb hT q
def le_zero {T F:Nat} {sb:Int->Int->Prop} (hT:TO T sb) {f C:FSt} (D:Can 1 F f) (z:Can T F C) (h:Le I6 f (DZ C (replicate C.au.length 0))):Le sb f C:=by
 obtain⟨m,w⟩:=h;have q:(replicate C.au.length (0:Int)).length=C.au.length:=ah;have I:Can 1 F (DZ C (replicate C.au.length 0)):=z.DZ q λi l=>by rw[bQ,ja,ak l];simp
 refine⟨m,w.1,λi l=>⟨?_,λp H=> ?_⟩⟩
 .have K:=D.go.tp i (D.QX l);have e:(mC f).ty i=0:=af;rw[e];have G:=I.QX (w.Qv l);rw[A2 q] at G;have:=z.go.tp _ G;exact hT.top this.1 this.2
 .have:=(w.2 i l).2 p H;have e:(mC (DZ C (replicate C.au.length 0))).sc=(mC C).sc:=Fw q;rw[e] at this;exact this
def Oc {T F:Nat} {C:FSt} (l:Can T F C):Can 1 F (DZ C (replicate C.au.length 0)):=l.DZ ah λi q=>by rw[bQ,ja,ak q];simp
def wA (A B:List Int):List Node:=[⟨0,[]⟩]++(mK A 0).au.map (Sa 1)++(mK B 0).au.map (Sa (A.length+2))
section
variable {F:Nat} {A B:List Int} (hA:∀f∈A,0<=f/\f<(F:Int)) (hB:∀f∈B,0<=f/\f<(F:Int))
theorem tO:(wA A B).length=A.length+B.length+3:=by unfold wA;simp[eG];omega
theorem VS:(wA A B)[0]? =some ⟨0,[]⟩:=rfl
theorem SM {i:Nat} (h:i<A.length+1):(wA A B)[i+1]? =some (Sa 1 ((mK A 0).au[i]'(by rw[eG];exact h))):=by unfold wA;rw[eo,List.singleton_append,p9,c7 (by simp[eG];omega),dz,aW (by rw[eG];exact h)];rfl
theorem SN {i:Nat} (h:i<B.length+1):(wA A B)[i+(A.length+2)]? =some (Sa (A.length+2) ((mK B 0).au[i]'(by rw[eG];exact h))):=by
 unfold wA;rw[fc (by simp[eG]),dz]
 have:i+(A.length+2)-([(⟨0,[]⟩:Node)]++(mK A 0).au.map (Sa 1)).length=i:=by simp[eG]
 rw[this,aW (by rw[eG];exact h)];rfl
theorem ze {x:Nat} (w:x<A.length+B.length+3):x=0\/(∃i,i<A.length+1/\x=i+1)\/∃i,i<B.length+1/\x=i+(A.length+2):=by
 by_cases l:x=0
 .exact .inl l
 .by_cases q:x<A.length+2
  .exact .inr (.inl ⟨x-1,by omega,af⟩)
  .exact .inr (.inr ⟨x-(A.length+2),by omega,af⟩)
include hA hB
theorem BG {x:Node} (K:x∈wA A B):AO F (A.length+B.length+3) x.cG/\x.ef=0:=by
 obtain⟨j,l⟩:=fG.1 K;have w:=(bp.1 l).1;rw[tO] at w;have cA:=oy (T:=1) af hA ⟨gu 0,af⟩;have G:=oy (T:=1) af hB ⟨gu 0,af⟩;rcases ze w with rfl|⟨i,q,rfl⟩|⟨i,q,rfl⟩
 .rw[VS] at l;cases l;exact⟨⟨List.Pairwise.nil,λa I=>by cases I⟩,rfl⟩
 .rw[SM q] at l;cases l;have z:(mK A 0).au[i]'(by rw[eG];exact q)∈(mK A 0).au:=bH _;have D:=cA.ao z;have H:=cA.tyr z;have L:=eG A 0;have N:=eG B 0;refine⟨D.sh af,?_⟩;unfold Sa;simp only;omega
 .rw[SN q] at l;cases l;have z:(mK B 0).au[i]'(by rw[eG];exact q)∈(mK B 0).au:=bH _;have D:=G.ao z;have H:=G.tyr z;have L:=eG A 0;have N:=eG B 0;refine⟨D.sh af,?_⟩;unfold Sa;simp only;omega
theorem Ln {i:Nat} (q:i<A.length+1):(lG (wA A B)).sc (i+1)=(j9 (mK A 0) i).map λp=>(p.1,p.2+1):=by
 have w:i+1<(wA A B).length:=by rw[tO];omega
 have e:=(bp.1 (SM (A:=A) (B:=B) q)).2;have cA:=oy (T:=1) af hA ⟨gu 0,af⟩;have l:i<(mK A 0).au.length:=by rw[eG];exact q
 rw[LN w,e,zB l];exact Tm (cA.ao (bH l))
theorem Lo {i:Nat} (q:i<B.length+1):(lG (wA A B)).sc (i+(A.length+2))=(j9 (mK B 0) i).map λp=>(p.1,p.2+(A.length+2)):=by
 have z:i+(A.length+2)<(wA A B).length:=by rw[tO];omega
 have e:=(bp.1 (SN (A:=A) (B:=B) q)).2;have w:=oy (T:=1) af hB ⟨gu 0,af⟩;have l:i<(mK B 0).au.length:=by rw[eG];exact q
 rw[LN z,e,zB l];exact Tm (w.ao (bH l))
theorem EA {x:Nat} (q:x<A.length+B.length+3):(lG (wA A B)).ty x=0:=by
 have l:x<(wA A B).length:=by rw[tO];exact q
 rw[WA l];exact(BG hA hB (bH l)).2
theorem RB:(lG (wA A B)).sc 0=[]:=rfl
theorem TQ:Bd (lG (wA A B)).sc (A.length+B.length+3):=λx z p q=>by
 have l:x<(wA A B).length:=by rw[tO];exact z
 rw[LN l] at q;obtain⟨a,w,rfl⟩:=aA.1 q;have:=((BG hA hB (bH l)).1.ok a w).2;show a.To.toNat<_;omega
abbrev eqW (A B:List Int):List (Nat×Nat):=[(0,1),(1,A.length+2),(1+A.length,A.length+2+B.length)]
theorem TS {C:FSt} {R:Nat} (P:Can R F C) (h:∃k,wT C A=some k/\wT C B=some k):
  NP I6 (lG (wA A B)) (A.length+B.length+3) (eqW A B) (mC (DZ C (replicate C.au.length 0))) (λx=>if x=0 then 0 else if x<A.length+2 then Gl (mC C) A (x-1) else Gl (mC C) B (x-(A.length+2))):=by
 obtain⟨k,D,G⟩:=h;have L:(replicate C.au.length (0:Int)).length=C.au.length:=ah;have H:(mC (DZ C (replicate C.au.length 0))).sc=(mC C).sc:=Fw L;have I:∀y,(mC (DZ C (replicate C.au.length 0))).ty y=0:=λy=>by
  show qT _ y=0;by_cases Q:y<C.au.length
  .rw[KN L Q,bQ,ja,ak Q];rfl
  .unfold qT;rw[fE (by rw[A2 L];omega)]
 have O:Gl (mC C) A 0=0:=rfl;have S:Gl (mC C) B 0=0:=rfl;refine⟨λx N=>⟨EA hA hB N,I _⟩,λx N p z=> ?_,λp z=> ?_⟩
 .rw[H];rcases ze N with rfl|⟨i,K,rfl⟩|⟨i,K,rfl⟩
  .rw[RB hA hB] at z;cases z
  .rw[Ln hA hB K] at z;obtain⟨q,w,rfl⟩:=aA.1 z;by_cases l:i<A.length
   .rw[uX l] at w;simp at w;subst w;show(A[i],if i+1+1=0 then 0 else if i+1+1<A.length+2 then _ else _)∈(mC C).sc (if i+1=0 then 0 else if i+1<A.length+2 then _ else _);rw[az af,ak af,az af,ak af];exact qv P.Gm D l
   .have e:i=A.length:=af;rw[e,mB] at w;cases w
  .rw[Lo hA hB K] at z;obtain⟨q,w,rfl⟩:=aA.1 z;by_cases l:i<B.length
   .rw[uX l] at w;simp at w;subst w;show(B[i],if i+1+(A.length+2)=0 then 0 else if i+1+(A.length+2)<A.length+2 then _ else _)∈(mC C).sc (if i+(A.length+2)=0 then 0 else if i+(A.length+2)<A.length+2 then _ else _);rw[az af,az af,az af,az af,sR,sR];exact qv P.Gm G l
   .have e:i=B.length:=af;rw[e,mB] at w;cases w
 .simp only[eqW,aD,dG,dV] at z;rcases z with rfl|rfl|rfl
  .simp[O]
  .simp[O,S]
  .show(if 1+A.length=0 then 0 else if 1+A.length<A.length+2 then _ else _)=(if A.length+2+B.length=0 then 0 else if A.length+2+B.length<A.length+2 then _ else _)
   rw[az af,ak af,az af,az af,xW,xW,xH D,xH G]
theorem TR {G:Gr} {q:Nat->Nat} (w:SD 1 F I6 (lG (wA A B)) (A.length+B.length+3) (eqW A B) G q):Nt F A B (jG G (A.length+B.length+3) (q 0))/\
  ∀P,(∀i,i<=A.length->A.take i∈P)->(∀i,i<B.length->B.take i∈P)->Sk (jG G (A.length+B.length+3) (q 0)) P:=by
 have L:0<A.length+B.length+3:=af;have U:=w.can L;have cA:=oy (T:=1) af hA ⟨gu 0,af⟩;have W:=oy (T:=1) af hB ⟨gu 0,af⟩;have V:=w.WU.eq (0,1) ah;have q1:=w.WU.eq (1,A.length+2) ah;have q2:=w.WU.eq (1+A.length,A.length+2+B.length) ah;simp only at V q1 q2
 have Q:=w.part QZ L (A:=mC (mK A 0)) (s:=0) (e:=λi=>i+1) (λi H=>by
  have l:=cA.QX H;rw[eG] at l;refine⟨by show i+1<_;omega,?_,Ln hA hB l⟩;have:=cA.tyr (bH (by rw[eG];exact l:i<(mK A 0).au.length));have e2:(mC (mK A 0)).ty i=_:=vD (by rw[eG];exact l:i<(mK A 0).au.length)
  rw[EA hA hB af,e2];omega) (by show q (0+1)=q 0;exact V.symm)
 have R:=w.part QZ L (A:=mC (mK B 0)) (s:=0) (e:=λi=>i+(A.length+2)) (λi H=>by
  have l:=W.QX H;rw[eG] at l;refine⟨by show i+(A.length+2)<_;omega,?_,Lo hA hB l⟩;have:=W.tyr (bH (by rw[eG];exact l:i<(mK B 0).au.length));have e2:(mC (mK B 0)).ty i=_:=vD (by rw[eG];exact l:i<(mK B 0).au.length)
  rw[EA hA hB af,e2];omega) (by show q (0+(A.length+2))=q 0;rw[fW,V];exact q1.symm)
 have D:∀i,i<=A.length->wT (jG G (A.length+B.length+3) (q 0)) (A.take i)=some ((ij G (A.length+B.length+3) (q 0)).idxOf (q (i+1))):=λi H=>HP cA U Q (Et i H)
 have O:∀i,i<=B.length->wT (jG G (A.length+B.length+3) (q 0)) (B.take i)=some ((ij G (A.length+B.length+3) (q 0)).idxOf (q (i+(A.length+2)))):=λi H=>HP W U R (Et i H)
 have S:q (A.length+1)=q (B.length+(A.length+2)):=by rw[qY A.length 1,qY B.length];exact q2
 refine⟨⟨U,⟨(ij G (A.length+B.length+3) (q 0)).idxOf (q (A.length+1)),?_,?_⟩,λC T' sb hT hC hk=> ?_⟩,λP N hPB k hk=> ?_⟩
 .have:=D A.length (aJ _);rw[fF] at this;exact this
 .have:=O B.length (aJ _);rw[fF] at this;rw[S];exact this
 .refine le_zero hT U hC ?_;exact w.le QZ L (Oc hC) (TS hA hB hC hk) ah
 .obtain⟨x,hx⟩:=Ep hk;have hm:=aS hx;have I:=sj (rF w.go.bd (w.lt 0 L)).nd hx;obtain⟨hxn,K⟩:=w.fix L ((Fa w.go.bd (w.lt 0 L)).1 hm);rcases ze hxn with rfl|⟨i,H,rfl⟩|⟨i,H,rfl⟩
  .refine⟨[],by have:=N 0 (by omega);simpa using this,?_⟩;have:=D 0 af;rw[List.take_zero] at this;refine this.trans (aC some ?_);rw[<-V];exact(aC (λz=>List.idxOf z (ij G (A.length+B.length+3) (q 0))) K).trans I
  .exact⟨A.take i,N i af,by rw[D i af,K,I]⟩
  .by_cases l:i<B.length
   .exact⟨B.take i,hPB i l,by rw[O i af,K,I]⟩
   .have e:i=B.length:=af;subst e;refine⟨A.take A.length,N _ (aJ _),?_⟩;rw[D _ (aJ _),S,K,I]
def NS (F:Nat):Gr:=⟨λ_=>(List.range F).map λ(f:Nat)=>((f:Int),0),λ_=>0⟩
omit hA hB in
theorem Bh:NF (NS F):=λx=>by show List.Pairwise _ (List.map _ _);rw[fR];exact List.pairwise_lt_range.imp λh=>by simp only;omega
theorem Eh {W:List (Nat×Nat)}:NP I6 (lG (wA A B)) (A.length+B.length+3) W (NS F) (λ_=>0):=by
 refine⟨λx l=>⟨EA hA hB l,rfl⟩,λx l p w=> ?_,λ_ _=>rfl⟩;have q:x<(wA A B).length:=by rw[tO];exact l
 rw[LN q] at w;obtain⟨a,z,rfl⟩:=aA.1 w;have:=((BG hA hB (bH q)).1.ok a z).1;exact aA.2 ⟨a.aV.toNat,fC.2 af,by show((a.aV.toNat:Int),0)=(a.aV,0);congr 1;omega⟩
theorem c438 {h:dr} (H:HM h 1 I6) (hF:F<=300) (Vf:A.length<=1000) (Nv:B.length<=1000):∃f,f438 h ⟨[⟨0,[]⟩]⟩ A B=some (f,true)/\Nt F A B f/\∀P,(∀i,i<=A.length->A.take i∈P)->(∀i,i<B.length->B.take i∈P)->Sk f P:=by
 have cA:=oy (T:=1) af hA ⟨gu 0,af⟩;have W:=oy (T:=1) af hB ⟨gu 0,af⟩;have G:=eG A 0;have lB:=eG B 0;have S:f442 [⟨0,[]⟩] h.Types h.fO [] [] []=some ((),ids 0 1,[0],[[]]):=by rw[Ty (fr:=0) rfl rfl rfl ah (λx D=>by simp at D;subst D;exact⟨ah,λa ha=>by cases ha⟩)];rfl
 have U:f442 (mK A 0).au h.Types h.fO (ids 0 1) [0] [[]]=some ((),ids 0 1++ids 1 (A.length+1),[0]++(mK A 0).au.map (·.ef),[[]]++(mK A 0).au.map λx=>IL 1 x.cG):=by rw[Ty (fr:=1) (yt _ _) rfl rfl af (cA.small af af),G]
 have V:f442 (mK B 0).au h.Types h.fO (ids 0 1++ids 1 (A.length+1)) ([0]++(mK A 0).au.map (·.ef)) ([[]]++(mK A 0).au.map λx=>IL 1 x.cG)=
   some ((),ids 0 (A.length+B.length+3),(wA A B).map (·.ef),(wA A B).map (·.cG)):=by
  rw[Ty (fr:=A.length+2) (by simp[yt];omega) (by simp[G]) (by simp[G]) af (W.small af af),lB];have e1:ids 0 1++ids 1 (A.length+1)++ids (A.length+2) (B.length+1)=ids 0 (A.length+B.length+3):=by have x1:=LC 0 1 (A.length+1);have x2:=LC 0 (1+(A.length+1)) (B.length+1);rw[fW] at x1 x2;have x3:1+(A.length+1)=A.length+2:=af;rw[x1];rw[x3] at x2⊢;rw[x2];congr 1;omega
  rw[e1];have e2:[0]++(mK A 0).au.map (·.ef)++(mK B 0).au.map (·.ef)=(wA A B).map (·.ef):=by unfold wA;simp[Sa,jQ]
  have e3:[[]]++((mK A 0).au.map λx=>IL 1 x.cG)++((mK B 0).au.map λx=>IL (A.length+2) x.cG)=(wA A B).map (·.cG):=by unfold wA;simp[Sa,jQ]
  rw[e2,e3]
 have I:=tO (A:=A) (B:=B);have O:JI 1 (AO F (A.length+B.length+3)) I6 (lG (wA A B)) (A.length+B.length+3) [] [] (ids 0 (A.length+B.length+3)) ((wA A B).map (·.ef)) ((wA A B).map (·.cG)) id (λ_=>0):=by
  refine JI.init QZ.refl rfl (by simpa using I) (by simpa using I) (λx D=> ?_) (λx D=> ?_) (λx _=>rfl) (λx _=>rfl)
  .have q:x<(wA A B).length:=af;rw[ry q,(BG hA hB (bH q)).2];omega
  .have q:x<(wA A B).length:=af;rw[ry q];exact(BG hA hB (bH q)).1
 have z:(A.length+B.length+3) *F<=400000000:=by have:=Nat.mul_le_mul (by omega:A.length+B.length+3<=10000) hF;omega
 have e0:(0:Int)=((0:Nat):Int):=rfl;have w1:((ids 0 1).length:Int)=((1:Nat):Int):=by rw[yt]
 have w2:((ids 0 1++ids 1 (A.length+1)).length:Int)=((A.length+2:Nat):Int):=by simp[yt];omega
 rcases Tz H af (by omega:0<A.length+B.length+3) (by omega:1<A.length+B.length+3) z O with⟨p1,t1,r1,K,d1,j1,Q⟩|⟨_,l⟩
 .rcases Tz H af (by omega:1<A.length+B.length+3) (by omega:A.length+2<A.length+B.length+3) z Q with⟨p2,t2,r2,L,d2,j2,R⟩|⟨_,l⟩
  .rcases Tz H af (by omega:1+A.length<A.length+B.length+3) (by omega:A.length+2+B.length<A.length+B.length+3) z R with⟨p3,t3,r3,N,d3,j3,w⟩|⟨_,l⟩
   .obtain⟨p4,g⟩:=c444 (TL:=h.Types) (FL:=h.fO) (d:=d3) w.la w.lt w.ao w.pi.rl w.pi.rr af af (by omega:0<A.length+B.length+3) w.pi;obtain⟨s1,s2⟩:=TR hA hB (w.uni (TQ hA hB));refine⟨_,e438 ?_,s1,s2⟩;have v1:IntKind.wrap .i64 (((1:Nat):Int)+(A.length:Int))=((1+A.length:Nat):Int):=by rw[jM af af];omega
    have v2:IntKind.wrap .i64 (((A.length+2:Nat):Int)+(B.length:Int))=((A.length+2+B.length:Nat):Int):=by rw[jM af af];omega
    rw[e425 rfl,aI,Tx af,aI,aI,Tx af,aI,S,iy,U,iy,V,iy,w1,w2,v1,v2,e0,j1,iy,cond_neg (by rfl),j2,iy,cond_neg (by rfl),j3,iy,cond_neg (by rfl),g,iy]
   .exact(l (NS F) _ Bh (Eh hA hB)).elim
  .exact(l (NS F) _ Bh (Eh hA hB)).elim
 .exact(l (NS F) _ Bh (Eh hA hB)).elim
end
