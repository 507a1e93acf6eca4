/- The Closure laws. -/
import Derived.Test.YtacapiamkgkkjaaGreatDoorClNd
import Derived.Test.YtacapiamkgkkjaaGreatDoorClT
set_option linter.all false
namespace Go.Proofs.YtacapiamkgkkjaaGreatDoor.cl
open Go Go.AM
noncomputable def bn (d:List aC) (w:Nat):List cr:=(bitsOf w).map λi=>(iN d).getD i []
noncomputable def nmW (d:List aC) (w:Nat):cr:=CM d (iN d) (oN d) w
def R8 {d:List aC} {w:Nat}:∀(ss:List cr) (q:List Nat) (i:Nat) (l:List cr) (k:Nat),ss.length=q.length->jm (λc=>c==w) q i=(k:Int)->i<=k/\ss[k-i]? =some (mU d w ss q i l):=by intro ss;induction ss with
 |nil=>intro q i l k z h;have :=nS.1 z.symm;subst this;have D:(-1:Int)=(k):=h;omega
 |cons s ss B=>intro q i l k z h;cases q with
  |nil=>simp at z
  |cons c q=>
   rw[jm] at h;simp[mU];by_cases e:c=w
   .grind
   .rw[show(c==w)=false by simp_all] at h;rw[aA e];obtain⟨F,G⟩:=B _ _ _ k (by simp_all) h;refine⟨af,?_⟩;rw[show k-i=(k-(i+1))+1 by omega,rH];omega
def OD {d:List aC} {w:Nat}:∀(ss:List cr) (q:List Nat) (i:Nat) (l:List cr),ss.length=q.length->(∀c∈q,c≠w)->mU d w ss q i l=xV [38] (vL d (l++((List.range ss.length).filter λj=>w.testBit (i+j)).map λj=>ss.getD j [])):=by intro ss;induction ss with
 |nil=>grind[mU]
 |cons s ss D=>intro q i l B h;cases q with
  |nil=>simp at B
  |cons c q=>
   simp only[mU];rw[bw,List.range_succ_eq_map];have e:((List.range ss.length).filter ((λj=>w.testBit (i+j))∘Nat.succ)).map ((λj=>(s::ss).getD j [])∘Nat.succ)=((List.range ss.length).filter λj=>w.testBit (i+1+j)).map λj=>ss.getD j []:=by
    have e1:((λj=>w.testBit (i+j))∘Nat.succ)=λj=>w.testBit (i+1+j):=by funext j;simp;congr 1;omega
    have z:((λj=>(s::ss).getD j [])∘Nat.succ)=λj=>ss.getD j _:=rfl
    rw[e1,z]
   grind
def Np {w n:Nat} (B:n<=64) (h:∀i,w.testBit i=true->i<n):bitsOf w=(List.range n).filter w.testBit:=by
 unfold bitsOf;have z:=wv (n:=n) (m:=64-n)
 have:List.filter w.testBit (List.map (n+ ·) (List.range (64-n)))=[]:=by rw[yG];intro j q l;obtain⟨i,_,rfl⟩:=aD.1 q;have:=h _ l;omega
 simp_all
structure Dn (d:List aC) (w:Nat):Prop where
 lt:∀i,w.testBit i=true->i<(iN d).length
 dn:∀i j,i<(iN d).length->j<(iN d).length->w.testBit i=true->Le d ((iN d).getD i []) ((iN d).getD j [])->w.testBit j=true
def ZY {d:List aC} (x:cr):Dn d (cw d (iN d) x):=
 ⟨λi h=>(y8.1 h).1,λi j w l h q=>y8.2 ⟨l,sV.trans (y8.1 h).2 q⟩⟩
def dn_and {d:List aC} {a b:Nat} (l:Dn d a) (B:Dn d b):Dn d (a&&&b):=by
 refine⟨λi h=> ?_,λi j q w h z=> ?_⟩
 .rw[lT,aK] at h;exact l.lt i h.1
 .rw[lT,aK] at h⊢;exact⟨l.dn i j q w h.1 z,B.dn i j q w h.2 z⟩
def zj {w i:Nat} (l:w<18446744073709551616):i∈bitsOf w↔w.testBit i=true:=by unfold bitsOf;rw[cE,gp];refine⟨λh=>h.2,λh=>⟨?_,h⟩⟩;apply ef;intro q;rw[yN (eW l (uK (n:=2) (i:=64) af af))] at h;cases h
theorem bn_SS {d:List aC} {w:Nat} (h:∀i,w.testBit i=true->i<(iN d).length):SS (bn d w):=by have G:=nR.1 (mw (j9 d));unfold bn SS;rw[kK];have F:(bitsOf w).Pairwise _:=(List.pairwise_lt_range).sublist yQ;refine F.imp_of_mem ?_;intro a b l B z;have q:=h a (cE.1 l).2;have D:=h b (cE.1 B).2;simp_all
def ZB {d:List aC} {w:Nat} (h:∀i,w.testBit i=true->i<(iN d).length):∀x∈bn d w,x∈j9 d:=by intro x q;obtain⟨i,l,rfl⟩:=aD.1 q;exact Rt (h i (cE.1 l).2)
def H8 {d:List aC} {w:Nat} (h:∀i,w.testBit i=true->i<(iN d).length):vL d (bn d w)=(bn d w).filter (rU d (bn d w)):=by
 have q:(bn d w).filter (λs=>decide _)=bn d w:=yE.2 λx l=>by simpa using ZB h x l
 grind[SS.ext,mw,bn_SS,gy,vL]
def B3 {d:List aC} {l:List cr} {x:cr}:rU d l x=true↔∀y∈l,Le d y x->y=x:=by unfold rU;grind
def FY {d:List aC} (A:Acc d) {l:List cr}:∀x∈l,∃m∈l.filter (rU d l),Le d m x:=by
 obtain⟨r,B⟩:=A.rk;have key:∀(n) (x),r x=n->x∈l->∃m∈l.filter (rU d l),Le d m x:=by intro n;induction n using Nat.strongRecOn with
  |_ n I=>
   intro x e D;by_cases q:rU d l x=true
   .exact⟨x,cE.2 ⟨D,q⟩, .refl⟩
   .rw[B3] at q;obtain⟨y,F⟩:=Classical.not_forall.1 q;obtain⟨G,w⟩:=Classical.not_imp.1 F;obtain⟨z,H⟩:=Classical.not_imp.1 w
    have:r y<r x:=by
     rcases Ot B z with h|h
     .simp_all
     .exact h
    grind[sV.trans]
 simp_all
def TA {d:List aC} {w:Nat} (z:w<18446744073709551616) (D:Dn d w) {i:Nat} (B:i<(iN d).length):w.testBit i=true↔(iN d).getD i []∈bn d w:=by
 unfold bn;rw[aD];constructor
 .intro h;exact⟨i,(zj z).2 h,rfl⟩
 .rintro⟨j,F,e⟩;have l:=(zj z).1 F;have q:=D.lt j l;rw[bq,bq,aN B,aN q] at e;have:=(rK (mw _).nodup).1 e;simp_all
theorem abW {d:List aC} (A:Acc d) {w v:Nat} (I:w<18446744073709551616) (H:v<18446744073709551616) (B:Dn d w) (z:Dn d v) (h:vL d (bn d w)=vL d (bn d v)):w=v:=by
 have key:∀{w v:Nat},w<18446744073709551616->v<18446744073709551616->Dn d w->Dn d v->vL d (bn d w)=vL d (bn d v)->∀i,w.testBit i=true->v.testBit i=true:=by intro w v I H B z h i F;have l:=B.lt i F;obtain⟨m,G,L⟩:=FY A _ ((TA I B l).1 F);rw[<-H8 B.lt,h,H8 z.lt] at G;have D:=(cE.1 G).1;obtain⟨j,K,rfl⟩:=aD.1 D;have q:=(zj H).1 K;exact z.dn j i (z.lt j q) l q L
 apply uJ;grind
def WN {d:List aC} (A:Acc d) (B:d.length<=64) {x:cr} (I:x∈j9 d):vL d (bn d (cw d (iN d) x))=[x]:=by
 have F:=oQ (d:=d);have w:cw d (iN d) x<18446744073709551616:=ZX af;have D:=ZY (d:=d) x;rw[H8 D.lt];have l:∀y,y∈(bn d (cw d (iN d) x)).filter (rU d (bn d (cw d (iN d) x)))↔y∈[x]:=by
  intro y;have K:x∈bn d (cw d (iN d) x):=by obtain⟨i,q,e⟩:=N5 I;have h:=(TA w D q).1 (y8.2 ⟨q,by rw[e];exact .refl⟩);rw[e] at h;exact h
  have H:∀z∈bn d (cw d (iN d) x),Le d x z:=by intro z L;obtain⟨j,G,rfl⟩:=aD.1 L;exact(y8.1 ((zj w).1 G)).2
  rw[cE,B3];constructor
  .simp_all
  .grind[le_antisymm]
 refine SS.ext ?_ (by simp[SS]) l;exact(bn_SS D.lt).sublist yQ
def RO {s:cr} (h:isName s=true):(38:UInt8)∉s:=by unfold isName at h;grind[oD,Ba]
def cut38:∀{x l t q:cr},(38:UInt8)∉x->(38:UInt8)∉l->(t=[]\/∃u,t=38::u)->(q=[]\/∃u,q=38::u)->x++t=l++q->x=l/\t=q:=by intro x;induction x with
 |nil=>intro l t q w z B D h;cases l with
  |nil=>simp_all
  |cons c l=>simp_all
 |cons c x F=>intro l t q w z B D h;cases l with
  |nil=>grind
  |cons c' l=>grind
def Fv (l:List cr):vY l=[]\/∃u,vY l=38::u:=by cases l with
 |nil=>exact .inl rfl
 |cons x l=>simp_all[vY]
theorem YZ:∀{l q:List cr},(∀x∈l,(38:UInt8)∉x)->(∀x∈q,(38:UInt8)∉x)->vY l=vY q->l=q:=by intro l;induction l with
 |nil=>intro q _ _ h;cases q with
  |nil=>rfl
  |cons x q=>simp[vY] at h
 |cons x l B=>intro q w z h;cases q with
  |nil=>simp[vY] at h
  |cons D q=>
   have e:∀(y) (m),vY (y::m)=38::(y++vY m):=λy m=>by rfl
   rw[e,e,cg] at h;obtain⟨a,b⟩:=cut38 (w x ai) (z _ ai) (Fv l) (Fv _) h.2;grind
theorem Yx {l q:List cr} (D:l≠[]) (B:q≠[]) (w:∀x∈l,(38:UInt8)∉x) (z:∀x∈q,(38:UInt8)∉x) (h:xV [38] l=xV [38] q):l=q:=by cases l with
 |nil=>simp_all
 |cons x l=>cases q with
  |nil=>simp_all
  |cons F q=>rw[Dm,Dm] at h;obtain⟨a,b⟩:=cut38 (w x ai) (z _ ai) (Fv l) (Fv _) h;grind[YZ]
def aak {d:List aC} {i:Nat} (l:i<(iN d).length):(oN d)[i]? =some (cw d (iN d) ((iN d).getD i [])):=by simp_all[oN]
def aaK {l:Type} (p:l->Bool):∀(xs:List l) (i k:Nat),jm p xs i=(k:Int)->i<=k/\∃x,xs[k-i]? =some x/\p x=true:=by intro xs;induction xs with
 |nil=>intro i k h;have q:(-1:Int)=(k):=h;omega
 |cons x xs w=>intro i k h;rw[jm] at h;grind
def nmW_out {d:List aC} (l:d.length<=64) {w:Nat} (D:Dn d w) (h:∀c∈oN d,c≠w):nmW d w=xV [38] (vL d (bn d w)):=by have q:=oQ (d:=d);unfold nmW CM;rw[OD _ _ _ _ (by simp[oN]) h,bn,Np af D.lt];simp
def UW {d:List aC} (A:Acc d) (l:d.length<=64) {w:Nat} (D:Dn d w):nmW d w=xV [38] (vL d (bn d w)):=by
 by_cases h:∀c∈oN d,c≠w
 .exact nmW_out l D h
 .have K:¬jm (λc=>c==w) (oN d) 0<0:=by
   rw[aaL];intro N;exact h λc I=>by simp_all
  obtain⟨k,G⟩:∃k:Nat,jm (λc=>c==w) (oN d) 0=(k):=⟨(jm (λc=>c==w) (oN d) 0).toNat,af⟩
  obtain⟨_,e⟩:=R8 (iN d) _ 0 _ k (by simp[oN]) G;obtain⟨_,c,z,H⟩:=aaK _ _ _ _ G;rw[uL] at e z;have q:=(bP.1 e).1;rw[aak q] at z;have B:cw d (iN d) ((iN d).getD k [])=w:=by rw[<-(gT.1 H)];exact fB z
  have F:(iN d).getD k []=nmW d w:=by rw[bq,e];rfl
  rw[F] at B;have L:nmW d w∈j9 d:=by rw[<-F];exact Rt q
  have:=WN A l L;rw[B] at this;rw[this];rfl
def nmW_inj {d:List aC} (A:Acc d) (l:d.length<=64) {w v:Nat} (B:w<18446744073709551616) (P:v<18446744073709551616) (N:w≠0) (L:v≠0) (G:Dn d w) (F:Dn d v) (h:nmW d w=nmW d v):w=v:=by
 rw[UW A l G,UW A l F] at h;have ne:∀{w:Nat},w<18446744073709551616->w≠0->Dn d w->vL d (bn d w)≠[]:=by intro w B H D I;obtain⟨i,q⟩:=Nat.exists_testBit_of_ne_zero H;obtain⟨m,z,_⟩:=FY A _ ((TA B D (D.lt i q)).1 q);rw[<-H8 D.lt,I] at z;cases z
 have fr:∀{w:Nat},Dn d w->∀x∈vL d (bn d w),(38)∉x:=by intro w D x O;obtain⟨t,K,rfl⟩:=aD.1 (ZB D.lt x (R2 O));exact RO (A.name t K)
 grind[abW,Yx]
end Go.Proofs.YtacapiamkgkkjaaGreatDoor.cl
namespace Go.Proofs.YtacapiamkgkkjaaGreatDoor.cl
open Go Go.AM
def o31 {w v:Nat} (q:w<18446744073709551616) (l:v<18446744073709551616):f31 (e1 w) (e1 v)=some (decide (w=v)):=by
 refine e31 ?_;rw[o63 q l,ak,o63 l q,ak];by_cases h:w=v
 .subst h;rw[yp];simp
 .cases z:sub w v with
  |false=>simp[h]
  |true=>cases B:sub v w with
   |false=>simp[h]
   |true=>exact absurd (su z B) h
theorem aae {d:List aC} (A:Acc d) (q:d.length<=64):Fm (oN d) (Am (oN d))/\∀w∈Am (oN d),Dn d w:=by
 have l:(oN d).length<=256:=by have:=HS (d:=d);omega
 obtain⟨F,_,_⟩:=Em (BY A) ND l
 exact⟨F,F.gen (Dn d) (λc z=>by
  obtain⟨x,_,rfl⟩:=aD.1 z
  exact ZY x) (λa b=>dn_and)⟩
def R9 {d:List aC} (A:Acc d) (l:d.length<=64):((dR d).map (·.1)).Nodup:=by obtain⟨F,D⟩:=aae A l;have z:=(B0 (d:=d)).2.map (·.1);rw[fk] at z;refine z.nodup_iff.2 (ML F.nd λx q y w h=> ?_);exact nmW_inj A l (Qh F (Dd l) x q) (Qh F (Dd l) y w) (F.nz x q) (F.nz y w) (D x q) (D y w) h
def acj {D:Type} {l:List D} (h:l.Nodup) {i k:Nat} (z:i<l.length) (B:k<l.length) (e:l[i]=l[k]):i=k:=by
 have w:=nR.1 h;rcases yR i k with q|q|q
 .exact absurd e (w i k z B q)
 .exact q
 .exact absurd e.symm (w k i B z q)
structure Ok (d:List aC):Prop where
 z:Sz d
 acc:Acc d
 len:d.length<=64
 le:(Am (oN d)).length<=256
noncomputable def tys (d:List aC):List Nat:=(dR d).map (·.2)
noncomputable def y6 (d:List aC):List fJ:=(dR d).map HQ
def oa {d:List aC}:(y6 d).length=(tys d).length:=by simp[tys,y6]
def Ok.Uh {d:List aC} (h:Ok d):Zl (tys d):=cl.Uh h.acc h.len h.le
def Ok.cd {d:List aC} (h:Ok d):Cd (y6 d) (tys d):=cd_ents h.acc h.len h.le
def Ok.cL {d:List aC} (h:Ok d):(tys d).length<=256:=by have:=(BZ (d:=d)).length_eq;rw[tys,this];exact h.le
def Ok.lt {d:List aC} (h:Ok d) {i:Nat} (l:i<(tys d).length):(tys d).getD i 0<18446744073709551616:=h.cd.get l
noncomputable abbrev cwd (d:List aC) (x:cr):Nat:=cw d (iN d) x
def Ok.cwlt {d:List aC} (h:Ok d) (x:cr):cwd d x<18446744073709551616:=ZX (by have:=oQ (d:=d);have:=h.len;omega)
def ZW {d:List aC} (A:Acc d) (l:d.length<=64) {x:cr} (w:x∈j9 d):cwd d x∈Am (oN d):=by obtain⟨F,D⟩:=aae A l;obtain⟨e,q⟩:=F.pre;rw[q];refine cT _ (aD.2 ⟨x,?_,rfl⟩);exact gy.2 w
def Ok.cwmem {d:List aC} (h:Ok d) {x:cr} (l:x∈j9 d):cwd d x∈tys d:=(BZ (d:=d)).mem_iff.2 (ZW h.acc h.len l)
def Ok.entmem {d:List aC} (h:Ok d) {x:cr} (l:x∈j9 d):((x,cwd d x):DI)∈dR d:=by
 refine(B0 (d:=d)).2.mem_iff.2 (aD.2 ⟨cwd d x,ZW h.acc h.len l,?_⟩)
 have:nmW d (cwd d x)=x:=by rw[UW h.acc h.len (ZY x),WN h.acc h.len l];rfl
 show(nmW d (cwd d x),cwd d x)=_;rw[this]
noncomputable def nu (d:List aC) (x:cr):Nat:=(jm (λc:fJ=>c.Name==x) (y6 d) 0).toNat
def Ok.zm {d:List aC} (h:Ok d) {x:cr} (Q:x∈j9 d):jm (λc:fJ=>c.Name==x) (y6 d) 0=(nu d x:Int)/\nu d x<(tys d).length/\(tys d).getD (nu d x) 0=cwd d x/\∃R:nu d x<(y6 d).length,(y6 d)[nu d x].Name=x:=by
 have l:=h.entmem Q;obtain⟨j,F,e⟩:=Wl (λc:fJ=>c.Name==x) (y6 d) 0 ⟨HQ (x,cwd d x),aD.2 ⟨_,l,rfl⟩,by simp[HQ]⟩;have B:jm (λc:fJ=>c.Name==x) (y6 d) 0=(j:Int):=by have:=e.1;simpa using this
 have K:nu d x=j:=by unfold nu;rw[B];simp
 obtain⟨_,c,N,w⟩:=aaK _ _ _ _ B;obtain⟨p,P,z⟩:=iQ.1 l;have q:j<(dR d).length:=by simpa[y6] using F
 rw[uL,y6,dP,aN q] at N;have D:(dR d)[j].1=x:=by have O:c=HQ (dR d)[j]:=(fB N).symm;rw[O] at w;exact gT.1 w
 have I:=R9 h.acc h.len;have H:j=p:=by
  have G:j<((dR d).map (·.1)).length:=by simpa using q
  have L:p<((dR d).map (·.1)).length:=by simpa using P
  refine acj I G L ?_;rw[kM,kM,D,z]
 rw[K];refine⟨B,by rw[<-oa];exact F,?_,F,by simpa using e.2.1⟩;subst H;show((dR d).map (·.2)).getD j 0=_;rw[bq,dP,aN q,z];rfl
def JU {d:List aC} {t:aC} (h:t∈d):t.Name∈j9 d:=aD.2 ⟨t,h,rfl⟩
end Go.Proofs.YtacapiamkgkkjaaGreatDoor.cl
namespace Go.Proofs.YtacapiamkgkkjaaGreatDoor.cl
open Go Go.AM
def BL (c:UInt8):Bool:=decide (65<=c.toNat)&&decide (c.toNat<=90)
def vG (s:cr):Bool:=decide (1<=s.length)&&decide (s.length<=32)&& !oD (s.getD 0 0)&& !(s.getD 0 0).toNat==45&&s.all λc=>oD c||c.toNat==45||BL c
def c166 (c:UInt8):f166 (c.toNat:Int)=some (BL c):=by
 refine e166 ?_;by_cases h:65<=c.toNat
 .rw[cond_pos aH];simp only[BL,h,uM,gq];congr 1;rw[nP];omega
 .rw[cond_neg aH];simp[BL,h]
def c160t (c:UInt8):f160 (c.toNat:Int) true=some (oD c||c.toNat==45||BL c):=by refine e160 ?_;rw[c159,ak,c166,ak];cases oD c with
 |true=>rfl
 |false=>
  by_cases h:c.toNat=45
  .rw[au,cond_pos aH];simp[h]
  .rw[au,cond_neg aH];cases BL c<;>simp[h]
def h140t (s:cr) (l:s.length<=1073741824):∀(xs:cr) (i:Nat),s.drop i=xs->KN s true i=some (xs.all λc=>oD c||c.toNat==45||BL c):=by intro xs;induction xs with
 |nil=>intro i h;refine N8 ?_;rw[bp h];rfl
 |cons x xs q=>intro i h;refine N8 ?_;rw[aT h,aj,aP h,c160t,ak,aQ h l,q (i+1) (aJ h),gH];cases(oD x||x.toNat==45||BL x)<;>rfl
def c372 (s:cr):f372 s=some (vG s):=by
 refine e372 ?_
 have:f140 s true=some (vG s):=by
  refine e140 ?_;by_cases l:1<=s.length
  .rw[cond_neg aH];by_cases q:s.length<=32
   .rw[cond_neg aH,show(0:Int)=((0:Nat):Int) from rfl,cQ af,c159,ak,cQ af,h140t s af s 0 rfl];have z:s.getD 0 0=s[0]:=by rw[bq,aN af];rfl
    unfold vG;rw[z];cases oD s[0] with
    |true=>simp[l,q]
    |false=>
     by_cases w:s[0].toNat=45
     .rw[au,cond_pos aH];simp[w]
     .rw[au,cond_neg aH];simp[l,q,w]
   .rw[cond_pos aH];simp[vG,q]
  .rw[cond_pos aH];simp[vG,l]
 rw[this];rfl
def Fz (d:List aC):Prop:=∀t∈d,t.bN.length<=1048576
def val (t:aC) (F:cr):Option cr:=(t.bN.find? λx=>x.bM==F).map (·.Value)
def h373 (t:aC) (F:cr) (q:t.bN.length<=1048576):∀(xs:List ec) (i:Nat),t.bN.drop i=xs->
  Pw F i t=some (match xs.find? λx=>x.bM==F with|some x=>(x.Value,true)|none=>([],false)):=by
 intro xs;induction xs with
 |nil=>intro i h;refine abf ?_;rw[bp h];rfl
 |cons x xs l=>intro i h;refine abf ?_;rw[aT h,aj,aP h,aP h,aQ h af,l (i+1) (aJ h),lU];cases x.bM==F<;>rfl
def c373 (t:aC) (F:cr) (l:t.bN.length<=1048576):f373 t F=some (match val t F with|some v=>(v,true)|none=>([],false)):=by refine e373 ((h373 t F l t.bN 0 rfl).trans ?_);rw[val];cases t.bN.find? λx=>x.bM==F<;>rfl
def ac1 {t:aC} {F v:cr} (h:val t F=some v):∃x∈t.bN,x.bM=F/\x.Value=v:=by unfold val at h;obtain⟨x,l,rfl⟩:=cv.1 h;exact⟨x,nJ l,by simpa using pZ l,rfl⟩
abbrev fns (t:aC):List cr:=t.bN.map (·.bM)
def fal (d:List aC):List cr:=d.flatMap fns
def qd (d:List aC):List cr:=ng (fal d)
def h345b {d:List aC} {i:Nat} {t:aC} (q:d[i]? =some t) (F:t.bN.length<=1048576) {r:List cr}:∀(xs:List ec) (k:Nat) (o:List cr),t.bN.drop k=xs->o.length<=1072000000+k->
  KQ d ((xs.map (·.bM)).foldl (λo s=>qP s o) o) (i+1:Nat)=some r->i<1000000->Pm d o i k=some r:=by
 intro xs;induction xs with
 |nil=>intro k o h z w l;refine aa3 ?_;rw[iS q,bp h,au,bQ af];exact w
 |cons x xs B=>intro k o h z w l;refine aa3 ?_;have D:=eC h;have G:=nv x.bM o;rw[iS q,aT h,aj,iS q,aP h,c98 _ _ af,ak,aQ h af];exact B (k+1) _ (aJ h) af w l
def h345 {d:List aC} (I:d.length<=1000) (z:Fz d):∀(xs:List aC) (i:Nat) (o:List cr),d.drop i=xs->o.length<=1048576 *i->KQ d o i=some ((fal xs).foldl (λo s=>qP s o) o):=by intro xs;induction xs with
 |nil=>intro i o h B;refine aa2 ?_;rw[bp h];rfl
 |cons t xs w=>
  intro i o h B;refine aa2 ?_;have H:=eC h;have D:=z t (bf (cn h));rw[aT h,aj];refine h345b (cn h) D t.bN 0 o rfl af ?_ af;have q:(((fns t)).foldl (λo s=>qP s o) o).length<=o.length+(fns t).length:=by
   have:∀(l o:List cr),(l.foldl (λo s=>qP s o) o).length<=o.length+l.length:=by intro l;induction l with
    |nil=>intro o;simp
    |cons a l w=>intro o;have F:=nv a o;have G:=w (qP a o);rw[fO,bw];omega
   exact this _ _
  rw[bC] at q;rw[w (i+1) ((fns t).foldl (λo s=>qP s o) o) (aJ h) af];unfold fal;rw[p6,List.foldl_append]
def c345 {d:List aC} (q:d.length<=1000) (l:Fz d):f345 d=some (qd d):=e345 (h345 q l d 0 [] rfl ai)
def T7 (w:List cr):List cr->List ec->Int
 |_,[]=>0
 |q,x::l=>if vG x.bM=false then 1 else if x.bM∈q then 4 else if x.Value∈w then T7 w (q++[x.bM]) l else 5
def q8 (l:List cr):List aC->Int
 |[]=>0
 |t::d=>if T7 l [] t.bN=0 then q8 l d else T7 l [] t.bN
def aaf (F:List cr):∀(l:List ec) (q:List cr),T7 F q l=0↔(∀x∈l,vG x.bM=true/\x.Value∈F)/\(l.map (·.bM)).Nodup/\∀x∈l,x.bM∉q:=by intro l;induction l with
 |nil=>intro q;simp[T7]
 |cons x l I=>intro q;unfold T7;cases G:vG x.bM with
  |false=>simp[G]
  |true=>
   rw[aA ai];by_cases B:x.bM∈q
   .rw[aB B];simp[B]
   .rw[aA B];by_cases D:x.Value∈F
    .rw[aB D,I];constructor
     .rintro⟨a,b,c⟩;refine⟨λy w=> ?_,?_,λy w=> ?_⟩
      .rcases aI.1 w with rfl|w
       .exact⟨G,D⟩
       .exact a y w
      .rw[bu,fM];refine⟨λH=> ?_,b⟩;obtain⟨y,w,e⟩:=aD.1 H;exact c y w (by rw[e];simp)
      .rcases aI.1 w with rfl|w
       .exact B
       .exact λz=>c y w (by simp[z])
     .rintro⟨a,b,c⟩;rw[bu,fM] at b;refine⟨λy w=>a y (by simp[w]),b.2,λy w z=> ?_⟩;rcases bA.1 z with z|z
      .exact c y (by simp[w]) z
      .exact b.1 (aD.2 ⟨y,w,by simpa using z⟩)
    .rw[aA D];constructor
     .intro h;cases h
     .rintro⟨a,_⟩;exact absurd (a x ai).2 D
def T6 (w:List cr):∀(d:List aC),q8 w d=0↔∀t∈d,(∀x∈t.bN,vG x.bM=true/\x.Value∈w)/\(fns t).Nodup:=by intro d;induction d with
 |nil=>simp[q8]
 |cons t d B=>
  unfold q8;have z:=aaf w t.bN [];by_cases h:T7 w [] t.bN=0
  .rw[aB h,B];obtain⟨a,b,_⟩:=z.1 h;constructor
   .intro l u q;rcases aI.1 q with rfl|q
    .exact⟨a,b⟩
    .exact l u q
   .exact λl u q=>l u (by simp[q])
  .rw[aA h];constructor
   .intro l;exact absurd l h
   .intro l;obtain⟨a,b⟩:=l t ai;exact absurd (z.2 ⟨a,b,λx _=>by simp⟩) h
def h346c {d:List aC} {all:List cr} (q:all.length<=1073741824) {i k:Nat} {l:List ec} (H:l.length<=1048576) (z:k<l.length) {r:Int}
  (F:(if l[k].Value∈all then KS d all i l (k+1:Nat) else some 5)=some r):∀(n m:Nat),k-m=n->m<=k->
  Il d all i l k m=some (if l[k].bM∈((l.take k).drop m).map (·.bM) then 4 else r):=by
 intro n;induction n with
 |zero=>
  intro m B w
  have:m=k:=af
  subst this;refine Wr ?_;rw[cond_neg ai,cQ z,ZF _ _ q,ak];have e:(l.take m).drop m=[]:=by rw[List.drop_eq_nil_iff,fC];omega
  rw[e,aA ai,<-F,bQ af];by_cases h:l[m].Value∈all
  .rw[aB h,cond_neg (by simpa using h)]
  .rw[aA h,cond_pos (by simpa using h)]
 |succ n G=>
  intro m B w;have D:m<k:=af;refine Wr ?_;rw[cond_pos aH,cQ af,cQ z,bQ af,G (m+1) af af];have e:(l.take k).drop m=l[m]::(l.take k).drop (m+1):=by rw[jg (by rw[fC];omega),List.getElem_take]
  rw[e,bu];by_cases h:l[m].bM=l[k].bM
  .rw[cond_pos (by simpa using h),aB (by rw[h];simp)]
  .rw[cond_neg (by simpa using h)];simp only[aI,dg h,false_or]
def h346b {d:List aC} {all:List cr} (w:all.length<=1073741824) {i:Nat} (N:i<1000000) {l:List ec} (G:l.length<=1048576) {r:Int} (H:KR d all (i+1:Nat)=some r):∀(xs:List ec) (k:Nat),l.drop k=xs->
  KS d all i l k=some (if T7 all ((l.take k).map (·.bM)) xs=0 then r else T7 all ((l.take k).map (·.bM)) xs):=by
 intro xs;induction xs with
 |nil=>intro k h;refine aa5 ?_;rw[bp h,au,bQ af,H];rfl
 |cons x xs K=>
  intro k h;refine aa5 ?_;have F:=eC h;have D:l[k]=x:=(bP.1 (cn h)).2;have B:(l.take k).map (·.bM)++[x.bM]=(l.take (k+1)).map (·.bM):=by rw[dr,cn h];simp
  rw[aT h,aj,aP h,c372,ak];unfold T7;cases L:vG x.bM with
  |false=>rfl
  |true=>
   rw[di,au];rw[aA (by simp:¬(true=false)),B];have I:=K (k+1) (aJ h)
   rw[show(0:Int)=((0:Nat):Int) from rfl,h346c w G F (r:=if x.Value∈all then(if T7 all ((l.take (k+1)).map (·.bM)) xs=0 then r else T7 all ((l.take (k+1)).map (·.bM)) xs) else 5) (by
    rw[D];by_cases q:x.Value∈all
    .rw[aB q,aB q];exact I
    .rw[aA q,aA q]) _ 0 rfl af,nT,D]
   by_cases z:x.bM∈(l.take k).map (·.bM)
   .rw[aB z,aB z];rfl
   .rw[aA z,aA z];by_cases q:x.Value∈all
    .rw[aB q,aB q];rfl
    .rw[aA q,aA q];rfl
def h346 {d:List aC} (B:d.length<=1000) (q:Fz d) {all:List cr} (l:all.length<=1073741824):∀(xs:List aC) (i:Nat),d.drop i=xs->KR d all i=some (q8 all xs):=by intro xs;induction xs with
 |nil=>intro i h;refine aa4 ?_;rw[bp h];rfl
 |cons t xs z=>intro i h;refine aa4 ?_;have D:=eC h;have w:=q t (bf (cn h));rw[aT h,aj,aP h,show(0:Int)=((0:Nat):Int) from rfl,h346b l af w (z (i+1) (aJ h)) t.bN 0 rfl];rfl
def Yd {w ms:List cr} (h:∀x,x∈w↔x∈ms):∀(l:List ec) (q:List cr),T7 w q l=T7 ms q l:=by intro l;induction l with
 |nil=>intro _;rfl
 |cons x l z=>intro q;unfold T7;rw[z];simp only[h x.Value]
theorem Ri {l ms:List cr} (h:∀x,x∈l↔x∈ms):∀(d:List aC),q8 l d=q8 ms d:=by intro d;induction d with
 |nil=>rfl
 |cons t d q=>unfold q8;rw[q,Yd h]
def c346 {d:List aC} (q:d.length<=1000) (w:Fz d):f346 d=some (q8 (j9 d) d):=by refine e346 ?_;have l:=qk (j9 d);rw[bC] at l;rw[c52 d af,ak,show(0:Int)=((0:Nat):Int) from rfl,h346 q w af d 0 rfl,Ri (λx=>gy)]
end Go.Proofs.YtacapiamkgkkjaaGreatDoor.cl
namespace Go.Proofs.YtacapiamkgkkjaaGreatDoor.cl
open Go Go.AM
def sA (d:List aC) (F:cr):List cr:=(d.filter λt=>(val t F).isSome).map (·.Name)
def FZ {d:List aC} {F x:cr}:x∈sA d F↔∃t∈d,(val t F).isSome=true/\t.Name=x:=by
 unfold sA;rw[aD];constructor
 .rintro⟨t,l,e⟩;rw[cE] at l;exact⟨t,l.1,l.2,e⟩
 .rintro⟨t,l,h,e⟩;exact⟨t,cE.2 ⟨l,h⟩,e⟩
def Gu {d:List aC} {F x:cr} (h:x∈sA d F):x∈j9 d:=by obtain⟨t,l,_,rfl⟩:=FZ.1 h;exact JU l
def one:List cr->Option cr
 |[x]=>some x
 |_=>none
def acs {l:List cr} {x:cr} (h:one l=some x):l=[x]:=by cases l with
 |nil=>cases h
 |cons y l=>cases l with
  |nil=>unfold one at h;injection h with h;rw[h]
  |cons z l=>cases h
def eq_one {l:List cr} {u:cr} (B:l.Nodup) (q:∀x∈l,x=u) (w:u∈l):l=[u]:=by cases l with
 |nil=>cases w
 |cons y l=>have D:=q y ai;subst D;cases l with
  |nil=>rfl
  |cons z l=>have F:=q z ai;subst F;simp at B
noncomputable def A6 (d:List aC) (F:cr):Option cr:=one (vL d (ng (sA d F)))
def RM {d:List aC} (A:Acc d) {F u:cr}:A6 d F=some u↔u∈sA d F/\∀v∈sA d F,Le d u v:=by
 have q:∀x,x∈ng ((ng (sA d F)).filter λs=>decide (s∈j9 d))↔x∈sA d F:=by intro x;rw[gy,cE,gy];exact⟨λh=>h.1,λh=>⟨h,by simpa using Gu h⟩⟩
 have H:=mw ((ng (sA d F)).filter λs=>decide (s∈j9 d));unfold A6 vL;generalize ng ((ng (sA d F)).filter λs=>decide (s∈j9 d))=l at q H;constructor
 .intro h;have e:=acs h;refine⟨?_,λv I=> ?_⟩
  .have:u∈l.filter (rU d l):=by rw[e];simp
   exact(q u).1 (cE.1 this).1
  .obtain⟨m,z,w⟩:=FY A v ((q v).2 I);rw[e] at z;simp only[bS] at z;rw[<-z];exact w
 .rintro⟨D,G⟩;have e:l.filter (rU d l)=[u]:=by
   refine eq_one (H.nodup.filter _) (λx B=> ?_) ?_
   .rw[cE] at B;exact(B3.1 B.2 u ((q u).2 D) (G x ((q x).1 B.1))).symm
   .rw[cE];refine⟨(q u).2 D,B3.2 λy K w=> ?_⟩;exact le_antisymm A w (G y ((q y).1 K))
  rw[e];rfl
def RN {d:List aC} (A:Acc d) {F u:cr} (h:A6 d F=some u):u∈j9 d:=Gu ((RM A).1 h).1
def h357 {d:List aC} (O:Ok d) (D:Fz d) (F:cr):∀(xs:List aC) (i:Nat) (o:List cr),d.drop i=xs->o.length<=i->i<=d.length->
  KT d F o i=some (match one (vL d ((sA xs F).foldl (λo s=>qP s o) o)) with|some x=>(x,true)|none=>([],false)):=by
 have w:=O.len;intro xs;induction xs with
 |nil=>intro i o h G q;refine aa9 ?_;rw[bp h,au,c104 O.z O.acc o af,ak];show _=some (match one (vL d o) with|some x=>(x,true)|none=>([],false));generalize vL d o=l;cases l with
  |nil=>rfl
  |cons x l=>cases l with
   |nil=>rw[cond_neg (by rfl)];exact cQ (l:=[x]) (i:=0) ai _
   |cons y l=>rw[cond_pos (by rw[kJ];simp only[bw];omega)];rfl
 |cons t xs B=>intro i o h G q;refine aa9 ?_;have I:=eC h;have H:=D t (bf (cn h));rw[aT h,aj,aP h,c373 _ _ H,ak,aQ h af];cases z:val t F with
  |none=>
   rw[cond_neg (by rfl),B (i+1) o (aJ h) af af]
   have:sA (t::xs) F=sA xs F:=by simp[sA,fV,z]
   rw[this]
  |some v=>
   have K:=nv t.Name o;rw[cond_pos (by rfl),aP h,c98 _ _ af,ak,B (i+1) _ (aJ h) af af]
   have:sA (t::xs) F=t.Name::sA xs F:=by simp[sA,fV,z]
   rw[this,fO]
def c357 {d:List aC} (O:Ok d) (l:Fz d) (F:cr):f357 d F=some (match A6 d F with|some x=>(x,true)|none=>([],false)):=
 e357 (h357 O l F d 0 [] rfl ai af)
def h358 {l:List fJ} (w:l.length<=1048576) (x:cr):∀(xs:List fJ) (i:Nat),l.drop i=xs->Pr l x i=some (jm (λc=>c.Name==x) xs i):=by intro xs;induction xs with
 |nil=>intro i h;refine aba ?_;rw[bp h];rfl
 |cons y xs q=>intro i h;refine aba ?_;rw[aT h,aj,aP h,aQ h af,q (i+1) (aJ h),jm];cases y.Name==x<;>rfl
def o358 {d:List aC} (O:Ok d) {x:cr} (q:x∈j9 d):f358 (y6 d) x=some (nu d x:Int):=by have l:=O.cL;rw[<-oa] at l;refine e358 ((h358 (l:=y6 d) af x (y6 d) 0 rfl).trans ?_);rw[(O.zm q).1]
def Ok.code_nu {d:List aC} (O:Ok d) {x:cr} (l:x∈j9 d) (q:nu d x<(y6 d).length):(y6 d)[nu d x].Code=e1 (cwd d x):=by rw[O.cd.code,(O.zm l).2.2.1]
def Ok.nu_lt {d:List aC} (O:Ok d) {x:cr} (l:x∈j9 d):nu d x<(y6 d).length:=by rw[oa];exact(O.zm l).2.1
def comb (o:Option Nat) (c:Nat):Nat:=match o with
 |some a=>a&&&c
 |none=>c
noncomputable def Cs (d:List aC) (w:Nat) (F:cr) (o:Option Nat) (t:aC):Option Nat:=match val t F with
 |some v=>if sub w (cwd d t.Name)=true then some (comb o (cwd d v)) else o
 |none=>o
noncomputable def inh (d:List aC) (w:Nat) (F:cr):Option Nat:=d.foldl (Cs d w F) none
def Vd (d:List aC):Prop:=∀t∈d,∀x∈t.bN,x.Value∈j9 d
def Vd.val {d:List aC} (h:Vd d) {t:aC} (l:t∈d) {F v:cr} (q:val t F=some v):v∈j9 d:=by obtain⟨x,w,_,rfl⟩:=ac1 q;exact h t l x w
def stp_in {d:List aC} (O:Ok d) (K:Vd d) {w:Nat} {F:cr}:∀(xs:List aC) (o:Option Nat),(∀t∈xs,t∈d)->(∀c,o=some c->c=0\/c∈tys d)->∀c,xs.foldl (Cs d w F) o=some c->c=0\/c∈tys d:=by intro xs;induction xs with
 |nil=>intro o _ q c z;exact q c z
 |cons t xs N=>intro o H q c z;rw[fO] at z;refine N (Cs d w F o t) (λu L=>H u (by simp[L])) (λc' l=> ?_) c z;unfold Cs at l;cases D:val t F with
  |none=>rw[D] at l;exact q c' l
  |some v=>
   rw[D] at l;have G:=O.cwmem (K.val (H t ai) D);simp only at l;split at l
   .injection l with l;cases o with
    |none=>simp only[comb] at l;rw[<-l];exact .inr G
    |some a=>
     simp only[comb] at l;rcases q a rfl with B|B
     .left;rw[<-l,B];simp
     .by_cases I:a&&&cwd d v=0
      .left;rw[<-l,I]
      .right;rw[<-l];exact O.Uh.cl a B _ G I
   .exact q c' l
def inh_in {d:List aC} (O:Ok d) (l:Vd d) {w:Nat} {F:cr} {c:Nat} (h:inh d w F=some c):c=0\/c∈tys d:=
 stp_in O l d none (λt h=>h) (λc h=>by cases h) c h
def Ok.ltmem {d:List aC} (O:Ok d) {c:Nat} (h:c∈tys d):c<18446744073709551616:=O.cd.lt c h
def h370 {d:List aC} (O:Ok d) (Q:Fz d) (P:Vd d) {T:Nat} (N:T<(tys d).length) (F:cr):∀(xs:List aC) (i:Nat) (o:Option Nat),d.drop i=xs->(∀c,o=some c->c<18446744073709551616)->
  Gl d (y6 d) T F o.isSome (e1 (o.getD ((tys d).getD 0 0))) i=some (e1 ((xs.foldl (Cs d ((tys d).getD T 0) F) o).getD ((tys d).getD 0 0)),(xs.foldl (Cs d ((tys d).getD T 0) F) o).isSome):=by
 have I:=O.len;intro xs;induction xs with
 |nil=>intro i o h B;refine abe ?_;rw[bp h];rfl
 |cons t xs G=>intro i o h B;refine abe ?_;have w:t∈d:=bf (cn h);have S:=Q t w;rw[aT h,aj,aP h,c373 _ _ S,ak,aQ h af,fO];cases D:val t F with
  |none=>
   have e:Cs d ((tys d).getD T 0) F o t=o:=by unfold Cs;rw[D]
   rw[cond_pos (by rfl),G (i+1) o (aJ h) B,e]
  |some v=>have l:=P.val w D;have z:=JU w;have K:=O.zm z;have R:=O.zm l;rw[cond_neg (by rfl),aP h,o358 O z,ak,Y8 O.cd K.2.1 N,ak,K.2.2.1];unfold Cs;rw[D];simp only;cases L:sub ((tys d).getD T 0) (cwd d t.Name) with
   |false=>rw[eB,aj,aA ai];exact G (i+1) o (aJ h) B
   |true=>
    rw[di,au,aB rfl,o358 O l,ak,cQ (O.nu_lt l),O.code_nu l (O.nu_lt l)];have H:(o.getD ((tys d).getD 0 0))<18446744073709551616:=by cases o with
     |none=>exact O.lt O.Uh.pos
     |some a=>exact B a rfl
    rw[o61 H (O.cwlt v),ak];have e:o.getD ((tys d).getD 0 0)&&&cwd d v=comb o (cwd d v):=by cases o with
     |some a=>rfl
     |none=>show(tys d).getD 0 0&&&cwd d v=cwd d v;rw[Nat.and_comm];exact Xh.1 (O.Uh.top _ (O.cwmem l))
    rw[e];refine G (i+1) (some (comb o (cwd d v))) (aJ h) (λc q=> ?_);injection q with q;rw[<-q,<-e];exact kI nN H
def c370 {d:List aC} (O:Ok d) (w:Fz d) (q:Vd d) {T:Nat} (l:T<(tys d).length) (F:cr):f370 d (y6 d) T F=some (e1 ((inh d ((tys d).getD T 0) F).getD ((tys d).getD 0 0)),(inh d ((tys d).getD T 0) F).isSome):=by
 have z:0<(y6 d).length:=by rw[oa];exact O.Uh.pos
 refine e370 ?_;rw[show(0:Int)=((0:Nat):Int) from rfl,cQ z,O.cd.code];exact h370 O w q l F d 0 none rfl (λc h=>by cases h)
noncomputable def B9 (d:List aC) (l:List cr):Bool:=l.any λF=>(A6 d F).isNone
noncomputable def C7 (d:List aC) (l:List Nat):Bool:=l.any λw=>(qd d).any λF=>inh d w F==some 0
noncomputable def xo (d:List aC):Int:=
 if HJ d≠0 then HJ d else if(Am (oN d)).length>256 then 7 else if(qd d).length>64 then 7 else if q8 (j9 d) d≠0 then q8 (j9 d) d
 else if B9 d (qd d)=true then 10 else if C7 d (tys d)=true then 11 else 0
def h318c {d:List aC} (O:Ok d) (z:Fz d) (w:Vd d) {T:Nat} (q:T<(tys d).length) {r:Int} (B:(qd d).length<=1000) (D:Fb d (y6 d) (qd d) (T+1:Nat)=some r):∀(xs:List cr) (i:Nat),(qd d).drop i=xs->
  Fc d (y6 d) (qd d) T i=some (if(xs.any λF=>inh d ((tys d).getD T 0) F==some 0)=true then 11 else r):=by
 have I:=O.cL;intro xs;induction xs with
 |nil=>intro i h;refine Wp ?_;rw[bp h,au,bQ af,D];rfl
 |cons F xs G=>intro i h;refine Wp ?_;rw[aT h,aj,aP h,c370 O z w q,ak,aQ h af,G (i+1) (aJ h),nj];cases H:inh d ((tys d).getD T 0) F with
  |none=>rfl
  |some c=>
   simp only[D0,nE,aj];by_cases l:c=0
   .subst l;rfl
   .have:(some c==some 0)=false:=by simpa using l
    rw[this,ja,cond_neg (by
     rw[jf];intro e
     exact l (Eg af))]
def h318b {d:List aC} (O:Ok d) (B:Fz d) (z:Vd d) (l:(qd d).length<=1000):∀(xs:List Nat) (T:Nat),(tys d).drop T=xs->
  Fb d (y6 d) (qd d) T=some (if C7 d xs=true then 11 else 0):=by
 have H:=O.cL;intro xs;induction xs with
 |nil=>intro T h;refine Wo ?_;rw[oa,bp h];rfl
 |cons w xs G=>
  intro T h;refine Wo ?_;have q:=eC h;have D:(tys d).getD T 0=w:=by rw[bq,cn h];rfl
  rw[oa,aT h,aj];refine(h318c O B z q l (G (T+1) (aJ h)) (qd d) 0 rfl).trans ?_;rw[D];unfold C7;rw[nj];cases(qd d).any λF=>inh d w F==some 0 with
  |false=>rfl
  |true=>rfl
def h318a {d:List aC} (O:Ok d) (q:Fz d) (w:Vd d) (l:(qd d).length<=1000):∀(xs:List cr) (i:Nat),(qd d).drop i=xs->
  Ij d (y6 d) (qd d) i=some (if B9 d xs=true then 10 else if C7 d (tys d)=true then 11 else 0):=by
 intro xs;induction xs with
 |nil=>intro i h;refine Wn ?_;rw[bp h,au];exact h318b O q w l (tys d) 0 rfl
 |cons F xs z=>intro i h;refine Wn ?_;rw[aT h,aj,aP h,c357 O q,ak,aQ h af,z (i+1) (aJ h)];unfold B9;rw[nj];cases A6 d F<;>rfl
def ok_of {d:List aC} (z:Sz d) (l:d.length<=64) (q:HJ d=0) (w:¬(Am (oN d)).length>256):Ok d:=⟨z,IP q,l,af⟩
def M8 {d:List aC} (h:q8 (j9 d) d=0):Vd d:=λt l x q=>(((T6 _ d).1 h t l).1 x q).2
def c318 {d:List aC} (z:Sz d) (w:d.length<=64) (F:Fz d):f318 d=some (xo d):=by
 refine e318 ?_;unfold xo;rw[c15 z w,ak];by_cases l:HJ d=0
 .have B:¬(HJ d≠0):=λh=>h l
  rw[aA B,aA B];by_cases q:(Am (oN d)).length>256
  .rw[aB q,aB q];rfl
  .rw[aA q,aA q,cond_neg ai,c345 af F,ak];have O:=ok_of z w l q;by_cases G:(qd d).length>64
   .rw[aB G,cond_pos (by rw[bz];omega)]
   .rw[aA G,cond_neg (by rw[aS];omega),c346 af F,ak];by_cases D:q8 (j9 d) d=0
    .rw[D,cond_neg ai,aA ai];exact h318a O F (M8 D) af (qd d) 0 rfl
    .rw[aB D,cond_pos (by simpa using D)]
 .rw[aB l,aB l,cond_pos (by simpa using l)]
structure Zr (d:List aC):Prop where
 ok:Ok d
 fz:Fz d
 f64:(qd d).length<=64
 fd:q8 (j9 d) d=0
 intro:∀F∈qd d,∃u,A6 d F=some u
 vals:∀w∈tys d,∀F∈qd d,inh d w F≠some 0
def Kf {d:List aC} (z:Sz d) (G:d.length<=64) (L:Fz d) (h:xo d=0):Zr d/\HJ d=0/\¬(Am (oN d)).length>256:=by
 unfold xo at h;by_cases l:HJ d=0
 .rw[aA (show¬(HJ d≠0) from λh=>h l)] at h;by_cases q:(Am (oN d)).length>256
  .rw[aB q] at h;cases h
  .rw[aA q] at h;by_cases I:(qd d).length>64
   .rw[aB I] at h;cases h
   .rw[aA I] at h;by_cases B:q8 (j9 d) d=0
    .rw[aA (show¬(q8 (j9 d) d≠0) from λh=>h B)] at h;by_cases D:B9 d (qd d)=true
     .rw[aB D] at h;cases h
     .rw[aA D] at h;by_cases K:C7 d (tys d)=true
      .rw[aB K] at h;cases h
      .refine⟨⟨ok_of z G l q,L,by omega,B,λF H=> ?_,λw O F H e=> ?_⟩,l,q⟩
       .cases N:A6 d F with
        |some u=>exact⟨u,rfl⟩
        |none=>exact absurd (jI.2 ⟨F,H,by rw[N];rfl⟩) D
       .exact K (jI.2 ⟨w,O,jI.2 ⟨F,H,by rw[e];simp⟩⟩)
    .rw[aB B] at h;exact absurd h B
 .rw[aB l] at h;exact absurd h l
noncomputable def Jq (d:List aC) (F:cr):cU:=⟨F,(nu d ((A6 d F).getD []):Int)⟩
noncomputable def vA (d:List aC):List cU:=(qd d).map (Jq d)
def h320 {d:List aC} (O:Zr d):∀(xs:List cr) (i:Nat) (o:List cU),(qd d).drop i=xs->o.length<=i->Pj d (y6 d) (qd d) i o=some (o++xs.map (Jq d),0):=by have q:=O.f64;intro xs;induction xs with
 |nil=>intro i o h w;refine aaY ?_;rw[bp h,au,eY,dN]
 |cons F xs z=>
  intro i o h w;refine aaY ?_;have B:=eC h;obtain⟨u,l⟩:=O.intro F (bf (cn h))
  rw[aT h,aj,aP h,c357 O.ok O.fz,ak,l,aP h,o358 O.ok (RN O.ok.acc l),ak,cH _ af ai af,aQ h af,
   z (i+1) _ (aJ h) (by rw[cM];simp;omega),ew]
  have:Jq d F=⟨F,(nu d u:Int)⟩:=by unfold Jq;rw[l];rfl
  rw[bu,this];rfl
def c320 {d:List aC} (z:Sz d) (l:d.length<=64) (q:Fz d):f320 d=some (if xo d=0 then(vA d,0) else([],xo d)):=by
 refine e320 ?_;rw[c318 z l q,ak];by_cases h:xo d=0
 .obtain⟨O,w,B⟩:=Kf z l q h;rw[aB h,cond_neg (by simpa using h),c15 z l,aA (show¬(HJ d≠0) from λh=>h w),aA B,ak,c345 af q,ak];exact h320 O (qd d) 0 [] rfl ai
 .rw[aA h,cond_pos (by simpa using h)]
noncomputable def xE (d:List aC) (w:Nat):List cr->Nat->List fL
 |[],_=>[]
 |F::l,k=>match inh d w F with
  |some c=>⟨(k:Int),GY (tys d) c⟩::xE d w l (k+1)
  |none=>xE d w l (k+1)
noncomputable def Lg (d:List aC):List (List fL):=(tys d).map λw=>xE d w (qd d) 0
def Hs {d:List aC} {w:Nat}:∀(l:List cr) (k:Nat),(xE d w l k).length<=l.length:=by intro l;induction l with
 |nil=>intro k;simp[xE]
 |cons F l q=>intro k;have:=q (k+1);unfold xE;cases inh d w F<;>simp<;>omega
def h323b {d:List aC} (O:Zr d) {T:Nat} (B:T<(tys d).length) {o:List (List fL)} (I:o.length<=T) {r:List (List fL)×Int}:∀(xs:List cr) (i:Nat) (row:List fL),(qd d).drop i=xs->row.length<=i->
  KO d (y6 d) (qd d) (T+1:Nat) (o++[row++xE d ((tys d).getD T 0) xs i])=some r->Fe d (y6 d) (qd d) T i o row=some r:=by
 have D:=O.f64;have H:=O.ok.cL;intro xs;induction xs with
 |nil=>intro i row h w l;refine Wq ?_;rw[bp h,au,cH _ af ai af,bQ af];rwa[xE,dN] at l
 |cons F xs z=>intro i row h w l;refine Wq ?_;have G:=eC h;rw[aT h,aj,aP h,c370 O.ok O.fz (M8 O.fd) B,ak,aQ h af];unfold xE at l;cases q:inh d ((tys d).getD T 0) F with
  |none=>rw[q] at l;simp only[Option.isSome_none,au];exact z (i+1) row (aJ h) af l
  |some c=>rw[q] at l;simp only[D0,nE,aj];rw[o19 O.ok.cd,ak,cH _ af ai af];refine z (i+1) _ (aJ h) (by rw[cM];simp;omega) ?_;rw[ew];exact l
def h323 {d:List aC} (O:Zr d):∀(xs:List Nat) (T:Nat) (o:List (List fL)),(tys d).drop T=xs->o.length<=T->
  KO d (y6 d) (qd d) T o=some (o++xs.map (λw=>xE d w (qd d) 0),0):=by
 intro xs;induction xs with
 |nil=>intro T o h l;refine aaZ ?_;rw[oa,bp h,au,eY,dN]
 |cons w xs z=>
  intro T o h l;refine aaZ ?_;have q:(tys d).getD T 0=w:=by rw[bq,cn h];rfl
  rw[oa,aT h,aj];refine h323b O (eC h) l (qd d) 0 [] rfl ai ?_;rw[z (T+1) _ (aJ h) (by rw[cM];simp;omega),q,ew];rfl
def c323 {d:List aC} (z:Sz d) (l:d.length<=64) (q:Fz d):f323 d=some (if xo d=0 then(Lg d,0) else([],xo d)):=by
 refine e323 ?_;rw[c318 z l q,ak];by_cases h:xo d=0
 .obtain⟨O,w,B⟩:=Kf z l q h;rw[aB h,cond_neg (by simpa using h),c15 z l,aA (show¬(HJ d≠0) from λh=>h w),aA B,ak,c345 af q,ak];exact h323 O (tys d) 0 [] rfl ai
 .rw[aA h,cond_pos (by simpa using h)]
end Go.Proofs.YtacapiamkgkkjaaGreatDoor.cl
namespace Go.Proofs.YtacapiamkgkkjaaGreatDoor.cl
open Go Go.AM
def Jr {d:List aC}:(vA d).length=(qd d).length:=by simp[vA]
def Y1 {d:List aC}:(Lg d).length=(tys d).length:=by simp[Lg]
