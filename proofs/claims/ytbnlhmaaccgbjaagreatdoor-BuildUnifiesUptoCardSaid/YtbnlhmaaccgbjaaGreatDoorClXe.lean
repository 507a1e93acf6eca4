/- Layer 6. -/
import Derived.Test.YtbnlhmaaccgbjaaGreatDoorClSg
import Derived.Test.YtbnlhmaaccgbjaaGreatDoorClXc
set_option linter.all false
open Int (toNat)
open List (length)
namespace Go.Proofs.YtbnlhmaaccgbjaaGreatDoor.cl
open Go Go.AM
structure Hd (h:aN) (cs:List Nat):Prop where
 eq:h.Types.map (·.Code)=cs.map e1
 lt:∀c∈cs,c<18446744073709551616
 len:cs.length<=1000
def Hd.length {h:aN} {cs:List Nat} (H:Hd h cs):h.Types.length=cs.length:=by have:=aP (λl=>l.length) H.eq;simpa using this
def Hd.code {h:aN} {cs:List Nat} (H:Hd h cs) {i:Nat} (hi:i<h.Types.length):h.Types[i].Code=e1 (cs.getD i 0):=by
 have q:i<cs.length:=by rw[<-H.length];exact hi
 have:=aP (λl=>l[i]?) H.eq;simp only[dN,aK hi,aK q,dX,aW] at this;rw[this,bC,aK q];rfl
def Hd.get {h:aN} {cs:List Nat} (H:Hd h cs) {i:Nat} (hi:i<cs.length):cs.getD i 0<18446744073709551616:=H.lt _ (lS hi)
def ZF {d:List aC} {i:Nat} (hi:i<(tys d).length):∃h:i<(se d).Types.length,(se d).Types[i]=WI d i:=by refine⟨by simpa[se] using hi,?_⟩;simp[se]
def hd5 {d:List aC} (O:Ok5 d):Hd (se d) (tys d):=by
 refine⟨?_,λc q=>O.ok.ltmem q,by have:=O.ok.cL;omega⟩;apply nN
 .simp[se]
 .intro i w l;have hi:i<(tys d).length:=by simpa using l
  simp only[se,kQ,Ei,WI];rw[bC,aK hi];rfl
def Dd (cs:List Nat) (w:Nat):Int×Bool:=if Hz cs w<0 then(0,false) else(Hz cs w,true)
def fnI (xs:List Nat) (w i:Nat):Int:=match xs.findIdx? (· ==w) with
 |some j=>((i+j:Nat):Int)
 |none=> -1
def Sd (cs:List Nat) (w:Nat):fnI cs w 0=Hz cs w:=by unfold fnI Hz;cases cs.findIdx? (· ==w)<;>simp
def Sc (c:Nat) (xs:List Nat) (w i:Nat):fnI (c::xs) w i=if c=w then(i:Int) else fnI xs w (i+1):=by
 unfold fnI;rw[uM];by_cases e:c=w
 .subst e;simp
 .have l:(c==w)=false:=by simpa using e
  rw[l,au e];cases xs.findIdx? (· ==w) with
  |none=>rfl
  |some j=>
   show((i+(j+1):Nat):Int)=((i+1+j:Nat):Int)
   omega
def Xs {h:aN} {cs:List Nat} (H:Hd h cs) {i c:Nat} {xs:List Nat} (l:cs.drop i=c::xs):∃hi:i<h.Types.length,h.Types[i].Code=e1 c/\c<18446744073709551616:=by
 have hi:=eF l;have q:=H.length;refine⟨af,?_,?_⟩
 .rw[H.code,bC,bZ l];rfl
 .exact H.lt c (aZ (bZ l))
section
variable {h:aN} {cs:List Nat} (H:Hd h cs)
include H
theorem h353 {w:Nat} (G:w<18446744073709551616):∀(xs:List Nat) (i:Nat),cs.drop i=xs->Qd h.Types (e1 w) h.Types.length i=some (fnI xs w i):=by have L:=H.len;intro xs;induction xs with
 |nil=>intro i z;refine acv ?_;rw[H.length,bq z];rfl
 |cons c xs I=>
  intro i z;refine acv ?_;obtain⟨hi,D,q⟩:=Xs H z;have l:f371 h.Types[i] (e1 w)=some (decide (c=w)):=by refine e371 ?_;rw[D,o31 q G];rfl
  have B:=H.length;rw[cond_pos (by rw[bB];omega),cO hi,l,aj,bP af,I (i+1) (aI z),Sc];by_cases e:c=w
  .rw[aB e,cond_pos (by simpa using e)]
  .rw[au e,cond_neg (by simpa using e)]
theorem o353 {w:Nat} (l:w<18446744073709551616):f353 h.Types (e1 w)=some (Hz cs w):=by refine e353 ?_;rw[<-Sd];exact h353 H l cs 0 rfl
theorem h354 {w:Nat} (D:w<18446744073709551616):∀(xs:List Nat) (i:Nat),cs.drop i=xs->Qe (e1 w) i h=some (if fnI xs w i<0 then(0,false) else(fnI xs w i,true)):=by have I:=H.len;intro xs;induction xs with
 |nil=>intro i q;refine acw ?_;rw[H.length,bq q];rfl
 |cons c xs G=>
  intro i q;refine acw ?_;obtain⟨hi,B,l⟩:=Xs H q;have z:=H.length;rw[cond_pos (by rw[bB];omega),cO hi,B,o57 l D,aj,bP af,G (i+1) (aI q),Sc];by_cases e:c=w
  .rw[aB e,cond_pos (by simpa using e),au af]
  .rw[au e,cond_neg (by simpa using e)]
theorem o354 {w:Nat} (l:w<18446744073709551616):f354 h (e1 w)=some (Dd cs w):=by refine e354 ?_;unfold Dd;rw[<-Sd];exact h354 H l cs 0 rfl
variable (K:aaC cs) {i j:Nat} (hi:i<cs.length) (hj:j<cs.length)
include hi
theorem o339 {j:Nat} (hj:j<cs.length):f339 h i j=some (sub (cs.getD j 0) (cs.getD i 0)):=by refine e339 ?_;have l:=H.length;rw[cO af,cO af,H.code,H.code,o63 (H.get hj) (H.get hi)];rfl
theorem o340 {j:Nat} (hj:j<cs.length):f340 h i j=some (sub (cs.getD j 0) (cs.getD i 0)):=by refine e340 ?_;have l:=H.length;rw[cO af,cO af,H.code,H.code,o65 (H.get hj) (H.get hi)];rfl
include K hj
theorem o335:f335 h i j=some (Dd cs (cs.getD i 0&&&cs.getD j 0)):=by
 refine e335 ?_;have B:=H.length;have z:cs.getD i 0&&&cs.getD j 0<18446744073709551616:=nF rV (H.get hi);rw[cO af,cO af,H.code,H.code,ZT (H.get hi) (H.get hj),aj];by_cases q:cs.getD i 0&&&cs.getD j 0=0
 .rw[q,cond_pos (by rfl)];unfold Dd;rw[Xj (λw=>K.nz 0 w rfl)];rfl
 .rw[cond_neg (by rw[kN];intro e;exact q (EH af)),o353 H z,aj];unfold Dd;by_cases l:Hz cs (cs.getD i 0&&&cs.getD j 0)<0
  .rw[cond_pos (by simpa using l),aB l]
  .rw[cond_neg (by simpa using l),au l]
theorem o336:f336 h i j=some (Dd cs (cs.getD i 0&&&cs.getD j 0)):=by refine e336 ?_;have q:=H.length;have l:cs.getD i 0&&&cs.getD j 0<18446744073709551616:=nF rV (H.get hi);rw[cO af,cO af,H.code,H.code,o61 (H.get hi) (H.get hj),aj,o354 H l];rfl
end
def h355 {l:List fV} (z:l.length<=1000) (f:Int):∀(xs:List fV) (i:Nat),l.drop i=xs->Ja f l l.length i=some (match xs.find? λx=>x.bN==f with|some x=>(x.Value,true)|none=>(0,false)):=by intro xs;induction xs with
 |nil=>intro i q;refine XI ?_;rw[bq q];rfl
 |cons x xs w=>intro i q;refine XI ?_;rw[aV q,ak,aM q,aR q af,w (i+1) (aI q),lZ];cases hb:x.bN==f<;>simp
def h356 {l:List fV} (z:l.length<=1000) (f:Int):∀(xs:List fV) (i:Nat),l.drop i=xs->Qf f l i=some (match xs.find? λx=>x.bN==f with|some x=>(x.Value,true)|none=>(0,false)):=by intro xs;induction xs with
 |nil=>intro i q;refine acy ?_;rw[bq q];rfl
 |cons x xs w=>intro i q;refine acy ?_;rw[aV q,ak,aM q,aM q,aR q af,w (i+1) (aI q),lZ];cases hb:x.bN==f<;>rfl
def TQ {d:List aC} {w j:Nat} {F:b9} (h:(qB d)[j]? =some F):(match(xW d w (qB d) 0).find? (λx=>x.bN==(j:Int)) with|some x=>(x.Value,true)|none=>(0,false))=(match inh d w F with|some c=>(Hz (tys d) c,true)|none=>(0,false)):=by have:=Z7 (d:=d) (w:=w) (qB d) 0 j F h;rw[eO] at this;rw[this];cases inh d w F<;>rfl
section
variable {d:List aC} (O:Ok5 d) {T:Nat} (hT:T<(tys d).length) {j:Nat} {F:b9} (hj:(qB d)[j]? =some F)
include O hT hj
theorem o355:f355 (se d) T j=some (match inh d ((tys d).getD T 0) F with|some c=>(Hz (tys d) c,true)|none=>(0,false)):=by obtain⟨l,q⟩:=ZF hT;have z:=HZ (d:=d) (w:=(tys d).getD T 0) (qB d) 0;have w:=O.f64;refine e355 ?_;rw[cO l,q,<-TQ hj];exact h355 (by show(xW _ _ _ _).length<=1000;omega) j _ 0 rfl
theorem o356:f356 (se d) T j=some (match inh d ((tys d).getD T 0) F with|some c=>(Hz (tys d) c,true)|none=>(0,false)):=by obtain⟨l,q⟩:=ZF hT;have z:=HZ (d:=d) (w:=(tys d).getD T 0) (qB d) 0;have w:=O.f64;refine e356 ?_;rw[cO l,q,<-TQ hj];exact h356 (by show(xW _ _ _ _).length<=1000;omega) j _ 0 rfl
end
end Go.Proofs.YtbnlhmaaccgbjaaGreatDoor.cl
namespace Go.Proofs.YtbnlhmaaccgbjaaGreatDoor.cl.pf
open Go Go.AM
section
variable {R:Type}
theorem tT {l:List Int} {i:Nat} (h:i<l.length) (k:Int->Option R):check (0<=(i:Int)/\toNat (i:Int)<l.length) (eG l (toNat (i:Int)) k)=k (l.getD i 0):=by rw[bU ⟨af,by simpa using h⟩,bg];exact Xm h k
def rdL {q:Type} {l:List (List q)} {i:Nat} (h:i<l.length) (k:List q->Option R):check (0<=(i:Int)/\toNat (i:Int)<l.length) (eG l (toNat (i:Int)) k)=k (l.getD i []):=by rw[bU ⟨af,by simpa using h⟩,bg];exact Xm h k
def Bv {l:Nat} {i:Nat} (h:i<l) (a:Option R):check (0<=(i:Int)/\toNat (i:Int)<l) a=a:=bU ⟨af,by simpa using h⟩ a
def cK {l q w z:Type} (a:l) (b:q) (c:w) (d:z) (k:l->q->w->z->Option R):mN (some (a,b,c,d)) k=k a b c d:=rfl
def zB {l q w z B:Type} (a:l) (b:q) (c:w) (d:z) (e:B) (k:l->q->w->z->B->Option R):JJ (some (a,b,c,d,e)) k=k a b c d e:=rfl
def JK {l q w z B D:Type} (a:l) (b:q) (c:w) (d:z) (e:B) (g:D) (k:l->q->w->z->B->D->Option R):Ry (some (a,b,c,d,e,g)) k=k a b c d e g:=rfl
end
def fF {q:Type} (l:List q) (i j:Nat) (v d:q):(l.set i v).getD j d=if i=j/\j<l.length then v else l.getD j d:=by
 rw[bC,bC,nE];by_cases e:i=j
 .subst e;by_cases h:i<l.length
  .simp[h]
  .simp[h]
 .simp[e]
structure PI (n:Nat) (par:List Int) (rep d:Nat->Nat):Prop where
 len:par.length=n
 up:∀x,x<n->∃y,y<n/\par.getD x 0=(y:Int)/\rep y=rep x/\(y=x\/d y<d x)
 fix:∀x,x<n->(par.getD x 0=(x:Int)↔rep x=x)
 rl:∀x,x<n->rep x<n
 rr:∀x,x<n->rep (rep x)=rep x
section
variable {n:Nat} {rep d:Nat->Nat} {TL:List fO} {FL:List cU} {ty:List Int} {ar:List (List cD)}
def h485:∀(k x:Nat) (par:List Int),d x<=k->x<n->PI n par rep d->∃q,LU (x:Int) TL FL par ty ar=some (((rep x:Nat):Int),q,ty,ar)/\PI n q rep d:=by intro k;induction k with
 |zero=>
  intro x par hk D P;obtain⟨y,hy,B,N,h3⟩:=P.up x D;have l:x<par.length:=by rw[P.len];exact D
  have e:y=x:=af;subst e;refine⟨par,VA ?_,P⟩;rw[tT l,B,cond_neg ai,(P.fix y D).1 B]
 |succ k ih=>
  intro x par hk D P;obtain⟨y,hy,B,N,h3⟩:=P.up x D;have l:x<par.length:=by rw[P.len];exact D
  have hyl:y<par.length:=by rw[P.len];exact hy
  by_cases e:y=x
  .subst e;refine⟨par,VA ?_,P⟩;rw[tT l,B,cond_neg ai,(P.fix y D).1 B]
  .have h3:d y<d x:=af;obtain⟨z,hz,g1,g2,g3⟩:=P.up y hy;have I:d z<d x:=by rcases g3 with rfl|g3<;>omega
   have P':PI n (par.set x z) rep d:=by
    refine⟨by rw[jg];exact P.len,λw V=> ?_,λw V=> ?_,P.rl,P.rr⟩
    .by_cases G:x=w
     .subst G;exact⟨z,hz,by rw[fF,aB ⟨rfl,l⟩],by rw[g2,N], .inr I⟩
     .obtain⟨v,S⟩:=P.up w V;exact⟨v,S.1,by rw[fF,au (λh=>G h.1)];exact S.2.1,S.2.2⟩
    .by_cases G:x=w
     .subst G;rw[fF,aB ⟨rfl,l⟩];have hxz:z≠x:=λe=>by rw[e] at I;omega
      have:=P.fix x D;rw[B] at this;constructor
      .intro h;omega
      .intro h;have:=this.2 h;omega
     .rw[fF,au (λh=>G h.1)];exact P.fix w V
   obtain⟨q,r1,r2⟩:=ih z (par.set x z) af hz P';refine⟨q,VA ?_,r2⟩;rw[tT l,B,cond_pos aH,tT l,B,tT hyl,g1,tT l,bg];have hs:x<(par.set x (z:Int)).length:=by rw[jg];exact l
   have h0:=tT hs (λL=>LU L TL FL (par.set x (z:Int)) ty ar);rw[bg] at h0;rw[h0,fF,aB ⟨rfl,l⟩,r1,g2,N]
def c485 {x:Nat} {par:List Int} (z:x<n) (P:PI n par rep d):∃l,f485 (x:Int) TL FL par ty ar=some (((rep x:Nat):Int),l,ty,ar)/\PI n l rep d:=by obtain⟨l,q,w⟩:=h485 (TL:=TL) (FL:=FL) (ty:=ty) (ar:=ar) (d x) x par (aU _) z P;exact⟨l,e485 q,w⟩
end
def mg:List cD->List cD->List cD×List dF
 |[],l=>(l,[])
 |x::xs,[]=>(x::xs,[])
 |x::xs,y::l=>
  if x.bN<y.bN then(x::(mg xs (y::l)).1,(mg xs (y::l)).2)
  else if y.bN<x.bN then(y::(mg (x::xs) l).1,(mg (x::xs) l).2)
  else(x::(mg xs l).1,⟨x.To,y.To⟩::(mg xs l).2)
 termination_by x y=>x.length+y.length
def Gv (l:List cD):mg [] l=(l,[]):=by rw[mg]
def IV (xs:List cD):mg xs []=(xs,[]):=by cases xs<;>rw[mg]
def adu {x y:cD} (xs l:List cD) (h:x.bN<y.bN):mg (x::xs) (y::l)=(x::(mg xs (y::l)).1,(mg xs (y::l)).2):=by rw[mg,aB h]
def adt {x y:cD} (xs l:List cD) (h:y.bN<x.bN):mg (x::xs) (y::l)=(y::(mg (x::xs) l).1,(mg (x::xs) l).2):=by rw[mg,au af,aB h]
def ads {x y:cD} (xs l:List cD) (h:x.bN=y.bN):mg (x::xs) (y::l)=(x::(mg xs l).1,⟨x.To,y.To⟩::(mg xs l).2):=by rw[mg,au af,au af]
structure MG (x y:List cD) (r:List cD×List dF):Prop where
 sub:∀a∈r.1,a∈x\/a∈y
 left:∀a∈x,a∈r.1
 right:∀a∈y,∃b∈r.1,b.bN=a.bN/\(b=a\/⟨b.To,a.To⟩∈r.2)
 pair:∀p∈r.2,∃a∈x,∃b∈y,a.bN=b.bN/\p=⟨a.To,b.To⟩
 le:r.2.length<=y.length
def F9 (l:List cD):Prop:=l.Pairwise λp q=>p.bN<q.bN
def HJ:∀(k:Nat) (x y:List cD),x.length+y.length<=k->MG x y (mg x y)
 |_,[],y,_=>by rw[Gv];exact⟨λa h=> .inr h,λa h=>by(cases h),λa h=>⟨a,h,rfl, .inl rfl⟩,λp h=>by(cases h),cW _⟩
 |_,x::xs,[],_=>by rw[IV];exact⟨λa h=> .inl h,λa h=>h,λa h=>by(cases h),λp h=>by(cases h),cW _⟩
 |0,x::xs,y::w,h=>by simp at h
 |k+1,x::xs,y::w,h=>by
  simp only[bp] at h;rcases zk x.bN y.bN with D|q|B
  .rw[adu _ _ D];have M:=HJ k xs (y::w) (by simp only[bp];omega);refine⟨λa h=> ?_,λa h=> ?_,λa h=> ?_,λp h=> ?_,M.le⟩
   .rcases aJ.1 h with rfl|h
    .exact .inl ai
    .rcases M.sub a h with h|h
     .exact .inl (by simp[h])
     .exact .inr h
   .rcases aJ.1 h with rfl|h
    .simp
    .exact dz _ (M.left a h)
   .obtain⟨b,hb,l⟩:=M.right a h;exact⟨b,dz _ hb,l⟩
   .obtain⟨a,ha,b,hb,l⟩:=M.pair p h;exact⟨a,dz _ ha,b,hb,l⟩
  .rw[ads _ _ q];have M:=HJ k xs w af;refine⟨λa h=> ?_,λa h=> ?_,λa h=> ?_,λp h=> ?_,by simp only[bp];have:=M.le;omega⟩
   .rcases aJ.1 h with rfl|h
    .exact .inl ai
    .rcases M.sub a h with h|h
     .exact .inl (by simp[h])
     .exact .inr (by simp[h])
   .rcases aJ.1 h with rfl|h
    .simp
    .exact dz _ (M.left a h)
   .rcases aJ.1 h with rfl|h
    .exact⟨x,by simp,q, .inr ai⟩
    .obtain⟨b,hb,l,z⟩:=M.right a h;exact⟨b,dz _ hb,l,z.imp id (dz _)⟩
   .rcases aJ.1 h with rfl|h
    .exact⟨x,by simp,y,by simp,q,rfl⟩
    .obtain⟨a,ha,b,hb,l⟩:=M.pair p h;exact⟨a,dz _ ha,b,dz _ hb,l⟩
  .rw[adt _ _ B];have M:=HJ k (x::xs) w (by simp only[bp];omega);refine⟨λa h=> ?_,λa h=> ?_,λa h=> ?_,λp h=> ?_,by simp only[bp];have:=M.le;omega⟩
   .rcases aJ.1 h with rfl|h
    .exact .inr ai
    .rcases M.sub a h with h|h
     .exact .inl h
     .exact .inr (by simp[h])
   .exact dz _ (M.left a h)
   .rcases aJ.1 h with rfl|h
    .exact⟨a,by simp,rfl, .inl rfl⟩
    .obtain⟨b,hb,l,z⟩:=M.right a h;exact⟨b,dz _ hb,l,z⟩
   .obtain⟨a,ha,b,hb,l⟩:=M.pair p h;exact⟨a,ha,b,dz _ hb,l⟩
def Pe:∀(k:Nat) (x y:List cD),x.length+y.length<=k->F9 x->F9 y->F9 (mg x y).1
 |_,[],y,_,_,h=>by rw[Gv];exact h
 |_,x::xs,[],_,h,_=>by rw[IV];exact h
 |0,x::xs,y::w,h,_,_=>by simp at h
 |k+1,x::xs,y::w,h,G,I=>by
  simp only[bp] at h;have l:=dG.1 G;have q:=dG.1 I;rcases zk x.bN y.bN with B|D|z
  .rw[adu _ _ B];refine dG.2 ⟨λa ha=> ?_,Pe k xs (y::w) (by simp only[bp];omega) l.2 I⟩;rcases(HJ k xs (y::w) (by simp only[bp];omega)).sub a ha with h|h
   .exact l.1 a h
   .rcases aJ.1 h with rfl|h
    .exact B
    .have:=q.1 a h;omega
  .rw[ads _ _ D];refine dG.2 ⟨λa ha=> ?_,Pe k xs w af l.2 q.2⟩;rcases(HJ k xs w af).sub a ha with h|h
   .exact l.1 a h
   .have:=q.1 a h;omega
  .rw[adt _ _ z];refine dG.2 ⟨λa ha=> ?_,Pe k (x::xs) w (by simp only[bp];omega) G q.2⟩;rcases(HJ k (x::xs) w (by simp only[bp];omega)).sub a ha with h|h
   .rcases aJ.1 h with rfl|h
    .exact z
    .have:=l.1 a h;omega
   .exact q.1 a h
def CN {q:Type} (x:q) (l:List q):((x::l).take (length (x::l))).drop (toNat (1:Int))=l:=by rw[gp];rfl
def Cp {q R:Type} (x:q) (l:List q) (a:Option R):check (0<=(1:Int)/\(1:Int)<=(length (x::l):Nat)) a=a:=bU ⟨af,by simp only[bp];omega⟩ a
def jK {q R:Type} (x:q) (l:List q) (k:q->Option R):bA (x::l) 0 k=k x:=Kf af rfl k
def h486 {a:Nat} {TL:List fO} {FL:List cU} {par ty:List Int} {ar:List (List cD)} (ha:a<ar.length):∀(k:Nat) (x y q:List cD) (wt:List dF),x.length+y.length<=k->x.length+y.length+q.length<=1000000000->wt.length+y.length<=1000000000->
  nZ (a:Int) x y q TL FL wt par ty ar=some (true,wt++(mg x y).2,par,ty,ar.set a (q++(mg x y).1)):=by
 intro k;induction k with
 |zero=>intro x y q wt N _ _;have V:x=[]:=nU.1 af;have hy:y=[]:=nU.1 af;subst V;subst hy;refine ac2 ?_;rw[cond_neg (by rfl),cond_neg (by rfl),rdL ha,Gv,dP,dP,bg]
 |succ k I=>
  intro x y q wt N w B;refine ac2 ?_;have P:∀{L:Type} (x:L) (l:List L),decide ((length (x::l):Int)>0)=true:=λx l=>by rw[bB,bp];omega
  have Z:∀{L:Type} (x:L) (l:List L),((length (x::l):Int)==0)=false:=λx l=>by rw[kN,bp];omega
  cases x with
  |nil=>cases y with
   |nil=>rw[cond_neg (by rfl),cond_neg (by rfl),rdL ha,Gv,dP,dP,bg]
   |cons y z=>
    simp only[bp,dH] at N w B
    rw[cond_neg (by rfl),cond_pos (P y z),cond_neg (Z y z),cond_neg (by rfl),cond_pos (by rfl),jK,cC _ af ai af,Cp,CN,
     I [] z (q++[y]) wt aH aH af,Gv,Gv]
    simp
  |cons x xs=>cases y with
   |nil=>
    simp only[bp,dH] at N w B
    rw[cond_pos (P x xs),cond_pos (by rfl),jK,cC _ af ai af,Cp,CN,
     I xs [] (q++[x]) wt aH aH aH,IV,IV]
    simp
   |cons y z=>
    simp only[bp] at N w B;rw[cond_pos (P x xs),cond_neg (Z y z),cond_pos (P x xs),jK,jK];rcases zk x.bN y.bN with G|S|D
    .rw[cond_pos (by rw[bB];exact G),jK,cC _ af ai af,Cp,CN,
      I xs (y::z) (q++[x]) wt aH aH aH,adu _ _ G]
     simp
    .rw[cond_neg (by rw[aT];omega),cond_neg (Z x xs),jK,jK,cond_neg (by rw[aT];omega),jK,jK,cC _ af ai af,jK,cC _ af ai af,Cp,Cp,CN,CN,
      I xs z (q++[x]) _ af aH aH,ads _ _ S]
     simp
    .rw[cond_neg (by rw[aT];omega),cond_neg (Z x xs),jK,jK,cond_pos (by rw[bB];exact D),jK,cC _ af ai af,Cp,CN,
      I (x::xs) z (q++[y]) wt aH aH af,adt _ _ D]
     simp
end Go.Proofs.YtbnlhmaaccgbjaaGreatDoor.cl.pf
namespace Go.Proofs.YtbnlhmaaccgbjaaGreatDoor.cl.pf
open Go Go.AM
structure HM (h:aN) (T:Nat) (sb:Int->Int->Prop):Prop where
 to:TO T sb
 mt:∀a b:Int,0<=a->a<(T:Int)->0<=b->b<(T:Int)->
  (∃t,f335 h a b=some (t,true)/\f336 h a b=some (t,true)/\sb a t/\sb b t/\∀c,sb a c->sb b c->sb t c)\/
  (∃t,f335 h a b=some (t,false)/\f336 h a b=some (t,false)/\∀c,sb a c->sb b c->False)
def ND (l:List dF):List (Nat×Nat):=l.map λp=>(p.a0.toNat,p.a1.toNat)
def yQ (rep:Nat->Nat) (wt:List (Nat×Nat)) (x y:Nat):Prop:=∀E:Nat->Nat->Prop,Equivalence E->(∀a b,rep a=rep b->E a b)->(∀p∈wt,E p.1 p.2)->E x y
def yQ.imp {rep l:Nat->Nat} {wt q:List (Nat×Nat)} {x y:Nat} (D:∀a b,rep a=rep b->yQ l q a b) (G:∀p∈wt,yQ l q p.1 p.2) (h:yQ rep wt x y):yQ l q x y:=
 λE w z B=>h E w (λa b hab=>D a b hab E w z B) λp I=>G p I E w z B
def yQ.xU {rep:Nat->Nat} {wt:List (Nat×Nat)} {x y:Nat} (h:rep x=rep y):yQ rep wt x y:=λE _ l _=>l x y h
theorem yQ.KW {rep:Nat->Nat} {wt:List (Nat×Nat)} {p:Nat×Nat} (h:p∈wt):yQ rep wt p.1 p.2:=λE _ _ l=>l p h
def yQ.symm {rep:Nat->Nat} {wt:List (Nat×Nat)} {x y:Nat} (h:yQ rep wt x y):yQ rep wt y x:=λE l q w=>l.symm (h E l q w)
theorem yQ.trans {rep:Nat->Nat} {wt:List (Nat×Nat)} {x y z:Nat} (h:yQ rep wt x y) (B:yQ rep wt y z):yQ rep wt x z:=λE l q w=>l.trans (h E l q w) (B E l q w)
def yQ.done {rep:Nat->Nat} {x y:Nat} (h:yQ rep [] x y):rep x=rep y:=
 h (λa b=>rep a=rep b) ⟨λ_=>rfl,λh=>h.symm,λh l=>h.trans l⟩ (λ_ _ h=>h) (λp q=>by cases q)
structure AO (F n:Nat) (l:List cD):Prop where
 Ay:F9 l
 ok:∀a∈l,(0<=a.bN/\a.bN<(F:Int))/\0<=a.To/\a.To<(n:Int)
def AO.len {F n:Nat} {l:List cD} (h:AO F n l):l.length<=F:=by
 have:=yq (N:=F) (o:=l.map λa=>a.bN.toNat) (by
  have q:=h.Ay;have w:=h.ok;clear h;induction l with
  |nil=>simp
  |cons x l G=>
   have z:=dG.1 q;rw[bw,gC];refine⟨λI=> ?_,G z.2 λa ha=>w a (by simp[ha])⟩
   grind) (λx B=>by
  obtain⟨y,D,rfl⟩:=aD.1 B;have:=(h.ok y D).1
  omega)
 simp_all
def AO.mg {F n:Nat} {x y:List cD} (l:AO F n x) (q:AO F n y):AO F n (mg x y).1:=
 ⟨Pe _ x y (aU _) l.Ay q.Ay,λa ha=>((HJ _ x y (aU _)).sub a ha).elim (l.ok a) (q.ok a)⟩
structure JI (T:Nat) (Q:List cD->Prop) (sb:Int->Int->Prop) (U:Gr) (n:Nat) (W:List (Nat×Nat)) (wt:List dF) (par ty:List Int) (ar:List (List cD)) (rep d:Nat->Nat):Prop where
 pi:PI n par rep d
 lt:ty.length=n
 la:ar.length=n
 tr:∀x,x<n->0<=ty.getD x 0/\ty.getD x 0<(T:Int)
 ao:∀x,x<n->Q (ar.getD x [])
 wo:∀p∈wt,(0<=p.a0/\p.a0<(n:Int))/\0<=p.a1/\p.a1<(n:Int)
 sty:∀x,x<n->sb (U.ty x) (ty.getD (rep x) 0)
 sar:∀x,x<n->∀p∈U.sc x,∃a∈ar.getD (rep x) [],a.bN=p.1/\yQ rep (ND wt) p.2 a.To.toNat
 seq:∀p∈W,yQ rep (ND wt) p.1 p.2
 dD:∀C m,Det C->Uj sb U n W C m->(∀x,x<n->m (rep x)=m x)/\(∀x,x<n->rep x=x->sb (ty.getD x 0) (C.ty (m x))/\∀a∈ar.getD x [],(a.bN,m a.To.toNat)∈C.sc (m x))/\∀p∈ND wt,m p.1=m p.2
def cnt (n:Nat) (rep:Nat->Nat):Nat:=((List.range n).filter λx=>rep x==x).length
section
variable {T:Nat} {Q:List cD->Prop} {sb:Int->Int->Prop} {U:Gr} {n:Nat} {W:List (Nat×Nat)} {wt:List dF} {par ty:List Int} {ar:List (List cD)} {rep d:Nat->Nat}
theorem sj (p:dF):ND (wt++[p])=ND wt++[(p.a0.toNat,p.a1.toNat)]:=by simp[ND]
def JI.qG (h:JI T Q sb U n W wt par ty ar rep d) {l:List Int} {q:Nat->Nat} (w:PI n l rep q):JI T Q sb U n W wt l ty ar rep q:={ h with pi:=w }
def JI.skip {p:dF} (h:JI T Q sb U n W (wt++[p]) par ty ar rep d) (e:rep p.a0.toNat=rep p.a1.toNat):JI T Q sb U n W wt par ty ar rep d:=by
 have key:∀{x y},yQ _ (ND (wt++[p])) x y->yQ _ _ x y:=λ{x y}=>yQ.imp (λa b hab=> .xU hab) λq l=>by
  rw[sj] at l;rcases bu.1 l with l|l
  .exact .KW l
  .rw[cv] at l;subst l;exact .xU e
 refine { h with wo:=λq l=>h.wo q (by simp[l]),sar:=λx I q l=> ?_,seq:=λq l=>key (h.seq q l),dD:=λC m D G=> ?_ }
 .obtain⟨a,w,z,B⟩:=h.sar x I q l;grind
 .obtain⟨w,z,B⟩:=h.dD C m D G;exact⟨w,z,λq l=>B q (by rw[sj];grind)⟩
def JI.mem {wt':List dF} (h:JI T Q sb U n W wt par ty ar rep d) (z:∀p,p∈wt↔p∈wt'):JI T Q sb U n W wt' par ty ar rep d:=by
 have key:∀{x y},yQ rep (ND _) x y->yQ _ (ND _) x y:=λ{x y}=>yQ.imp (λa b hab=> .xU hab) λq l=>by obtain⟨p,w,rfl⟩:=aD.1 l;exact .KW (aD.2 ⟨p,(z p).1 w,rfl⟩)
 refine { h with wo:=λq l=>h.wo q ((z q).2 l),sar:=λx N q l=> ?_,seq:=λq l=>key (h.seq q l),dD:=λC m I L=> ?_ }
 .obtain⟨a,B,D,G⟩:=h.sar x N q l;grind
 .obtain⟨B,D,G⟩:=h.dD C m I L;refine⟨B,D,λq l=> ?_⟩;obtain⟨p,w,rfl⟩:=aD.1 l;exact G _ (aD.2 ⟨p,(z p).2 w,rfl⟩)
def JI.swap {p:dF} (h:JI T Q sb U n W (wt++[p]) par ty ar rep d):JI T Q sb U n W (wt++[⟨p.a1,p.a0⟩]) par ty ar rep d:=by
 have key:∀{x y},yQ rep (ND (wt++[p])) x y->yQ _ (ND (wt++[⟨p.a1,p.a0⟩])) x y:=λ{x y}=>yQ.imp (λa b hab=> .xU hab) λq l=>by
  rw[sj] at l⊢;rcases bu.1 l with l|l
  .exact .KW (by simp[l])
  .rw[cv] at l;subst l;exact yQ.symm (yQ.KW (p:=(p.a1.toNat,p.a0.toNat)) ai)
 refine { h with wo:=λq l=> ?_,sar:=λx I q l=> ?_,seq:=λq l=>key (h.seq q l),dD:=λC m D G=> ?_ }
 .rcases bu.1 l with l|l
  .exact h.wo q (by simp[l])
  .have:=h.wo p ai;simp_all
 .obtain⟨a,w,z,B⟩:=h.sar x I q l;grind
 .obtain⟨w,z,B⟩:=h.dD C m D G;refine⟨w,z,λq l=> ?_⟩;rw[sj] at l;rcases bu.1 l with l|l
  .grind[sj]
  .rw[cv] at l;subst l;exact(B (p.a0.toNat,p.a1.toNat) (by rw[sj];simp)).symm
def JI.start {a b:Nat} (h:JI T Q sb U n W [] par ty ar rep d) (ha:a<n) (hb:b<n):JI T Q sb U n (W++[(a,b)]) [⟨a,b⟩] par ty ar rep d:=by
 have key:∀{x y},yQ rep (ND []) x y->yQ _ (ND [⟨(a),b⟩]) x y:=λ{x y}=>yQ.imp (λa b hab=> .xU hab) λq l=>by cases l
 refine { h with wo:=λq l=> ?_,sar:=λx L q l=> ?_,seq:=λq l=> ?_,dD:=λC m G w=> ?_ }
 .simp_all
 .obtain⟨c,z,B,D⟩:=h.sar x L q l;grind
 .rcases bu.1 l with l|l
  .exact key (h.seq q l)
  grind[yQ.KW,ND]
 .obtain⟨z,B,D⟩:=h.dD C m G { w with eq:=λp I=>w.eq p (by simp[I]) };refine⟨z,B,λq l=> ?_⟩;simp[ND,bw,di,cv] at l;subst l;exact w.eq _ ai
section
variable {p:dF} (h:JI T Q sb U n W (wt++[p]) par ty ar rep d) {a b:Nat} (ha:rep p.a0.toNat=a) (hb:rep p.a1.toNat=b) (hab:a≠b)
include h
theorem JI.pn:p.a0.toNat<n/\p.a1.toNat<n:=by have:=h.wo p ai;omega
include ha hb
theorem JI.rn:a<n/\b<n/\rep a=a/\rep b=b:=by obtain⟨l,q⟩:=h.pn;have w:=h.pi.rl _ l;have z:=h.pi.rl _ q;have B:=h.pi.rr _ l;have D:=h.pi.rr _ q;simp_all
theorem JI.meq {C:Gr} {m:Nat->Nat} (q:Det C) (w:Uj sb U n W C m):m a=m b:=by obtain⟨z,B⟩:=h.pn;obtain⟨e1,_,l⟩:=h.dD C m q w;have:=l (p.a0.toNat,p.a1.toNat) (by rw[sj];simp);grind
theorem JI.no (D:∀c,sb (ty.getD a 0) c->sb (ty.getD b 0) c->False) (C:Gr) (m:Nat->Nat) (l:Det C) (q:Uj sb U n W C m):False:=by obtain⟨z,G,B,I⟩:=h.rn ha hb;obtain⟨_,w,_⟩:=h.dD C m l q;refine D _ (w a z B).1 ?_;rw[h.meq ha hb l q];simp_all
include hab
theorem JI.merge (hQ:∀l,Q l->∀c∈l,0<=c.To/\c.To<(n:Int)) (hT:∀{a b c},sb a b->sb b c->sb a c) {r:List cD×List dF} (M:MG (ar.getD a []) (ar.getD b []) r) (w:Q r.1) {t:Int} (t0:0<=t/\t<(T:Int)) (t1:sb (ty.getD a 0) t) (t2:sb (ty.getD b 0) t) (t3:∀c,sb (ty.getD a 0) c->sb (ty.getD b 0) c->sb t c):
  JI T Q sb U n W (wt++r.2) (par.set b a) (ty.set a t) (ar.set a r.1) (λx=>if rep x=b then a else rep x) (λx=>if rep x=b then d x+d a+1 else d x):=by
 obtain⟨D,V,I,N⟩:=h.rn ha hb;have key:∀{x y},yQ rep (ND (wt++[p])) x y->yQ (λx=>if rep x=b then a else rep x) (ND (wt++r.2)) x y:=λ{x y}=>yQ.imp (λu v huv=> .xU (by show(if _ then _ else _)=if _ then _ else _;rw[huv])) λq w=>by
  rw[sj] at w;rcases bu.1 w with w|w
  .exact .KW (by unfold ND at *;rw[cn];simp[w])
  .rw[cv] at w;subst w;refine .xU ?_;show(if _ then _ else _)=if _ then _ else _
   rw[ha,hb,au hab,aB rfl]
 have Ul:b<par.length:=by rw[h.pi.len];exact V
 have hne:∀x,rep x=b->x≠a:=λx e z=>hab (by rw[<-e,z,I])
 refine⟨⟨by rw[jg];exact h.pi.len,λx B=> ?_,λx B=> ?_,λx B=> ?_,λx B=> ?_⟩,by rw[jg];exact h.lt,by rw[jg];exact h.la,λx B=> ?_,λx B=> ?_,λq w=> ?_,λx B=> ?_,λx B q w=> ?_,λq w=>key (h.seq q w),λC m hC hs=> ?_⟩
 .by_cases e:b=x
  .subst e;refine⟨a,D,by rw[fF,aB ⟨rfl,Ul⟩],?_, .inr ?_⟩
   .show(if _ then _ else _)=if _ then _ else _
    rw[I,N,au hab,aB rfl]
   .show(if _ then _ else _)<if _ then _ else _
    rw[I,N,au hab,aB rfl];omega
  .obtain⟨y,hy,g1,g2,g3⟩:=h.pi.up x B;refine⟨y,hy,by rw[fF,au (λh=>e h.1)];exact g1,?_,?_⟩
   .show(if _ then _ else _)=if _ then _ else _
    rw[g2]
   .refine g3.imp id λg3=> ?_
    show(if _ then _ else _)<if _ then _ else _
    rw[g2];by_cases z:rep x=b
    .rw[aB z,aB z];omega
    .rw[au z,au z];exact g3
 .show _↔(if rep x=b then a else rep x)=x;by_cases e:b=x
  .subst e;rw[fF,aB ⟨rfl,Ul⟩,aB N];omega
  .rw[fF,au (λh=>e h.1),h.pi.fix x B];by_cases z:rep x=b
   .rw[aB z];have:=hne x z;omega
   .rw[au z]
 .show(if _ then _ else _)<n;split
  .exact D
  .exact h.pi.rl x B
 .show(if rep (if rep x=b then a else rep x)=b then a else rep (if rep x=b then a else rep x))=if rep x=b then a else rep x
  by_cases z:rep x=b
  .rw[aB z,I,au hab]
  .rw[au z,h.pi.rr x B,au z]
 .rw[fF];split
  .exact t0
  .exact h.tr x B
 .rw[fF];split
  .exact w
  .exact h.ao x B
 .rcases bu.1 w with w|w
  .exact h.wo q (by simp[w])
  .obtain⟨u,hu,v,hv,_,rfl⟩:=M.pair q w;exact⟨hQ _ (h.ao a D) u hu,hQ _ (h.ao b V) v hv⟩
 .have h0:=h.sty x B;show sb _ ((ty.set a t).getD (if rep x=b then a else rep x) 0);have G:a<ty.length:=by rw[h.lt];exact D
  by_cases z:rep x=b
  .rw[aB z,fF,aB ⟨rfl,G⟩];rw[z] at h0;exact hT h0 t2
  .rw[au z];by_cases L:a=rep x
   .rw[<-L,fF,aB ⟨rfl,G⟩];rw[<-L] at h0;exact hT h0 t1
   .rw[fF,au (λh=>L h.1)];exact h0
 .obtain⟨c,S,h2,h3⟩:=h.sar x B q w;have G:a<ar.length:=by rw[h.la];exact D
  show∃c∈(ar.set a _).getD (if rep x=b then a else rep x) [],_;by_cases z:rep x=b
  .rw[aB z,fF,aB ⟨rfl,G⟩];rw[z] at S;obtain⟨c',m1,m2,m3⟩:=M.right c S;refine⟨c',m1,by rw[m2,h2],?_⟩;rcases m3 with rfl|m3
   .exact key h3
   .refine(key h3).trans (yQ.symm (yQ.KW (p:=(c'.To.toNat,c.To.toNat)) ?_));unfold ND;rw[cn];exact gD _ (aD.2 ⟨_,m3,rfl⟩)
  .rw[au z];by_cases L:a=rep x
   .rw[<-L,fF,aB ⟨rfl,G⟩];rw[<-L] at S;exact⟨c,M.left c S,h2,key h3⟩
   .rw[fF,au (λh=>L h.1)];exact⟨c,S,h2,key h3⟩
 .obtain⟨e1,z,L⟩:=h.dD C m hC hs;have hm:=h.meq ha hb hC hs;have G:a<ar.length:=by rw[h.la];exact D
  have hal':a<ty.length:=by rw[h.lt];exact D
  obtain⟨a1,a2⟩:=z a D I;obtain⟨b1,b2⟩:=z b V N;rw[<-hm] at b1 b2;refine⟨λx B=> ?_,λx B P=> ?_,λq w=> ?_⟩
  .show m (if rep x=b then a else rep x)=m x;by_cases e:rep x=b
   .rw[aB e,hm,<-e,e1 x B]
   .rw[au e,e1 x B]
  .have P:(if rep x=b then a else rep x)=x:=P;by_cases e:rep x=b
   .rw[aB e] at P;exact absurd P.symm (hne x e)
   .rw[au e] at P;by_cases e4:a=x
    .subst e4;rw[fF,aB ⟨rfl,hal'⟩,fF,aB ⟨rfl,G⟩];exact⟨t3 _ a1 b1,λc hc=>(M.sub c hc).elim (a2 c) (b2 c)⟩
    .rw[fF,au (λh=>e4 h.1),fF,au (λh=>e4 h.1)];exact z x B P
  .unfold ND at w;rw[cn] at w;rcases bu.1 w with w|w
   .exact L q (by rw[sj];exact cR _ w)
   .obtain⟨r',P,rfl⟩:=aD.1 w;obtain⟨u,hu,v,hv,huv,rfl⟩:=M.pair r' P;have S:=a2 u hu;have h2:=b2 v hv;rw[<-huv] at h2;exact(hC _).Rc S h2
theorem MU:cnt n (λx=>if rep x=b then a else rep x)+1<=cnt n rep:=by
 obtain⟨q,l,w,z⟩:=h.rn ha hb;have e:(List.range n).filter (λx=>(if rep x=b then a else rep x)==x)=((List.range n).filter λx=>rep x==x).filter λx=>x !=b:=by
  rw[Ej];refine lU λx _=> ?_
  by_cases B:rep x=b<;>grind
 unfold cnt;rw[e];exact List.length_filter_lt_length_iff_exists.2 ⟨b,c4.2 ⟨gL.2 l,by simp_all⟩,ai⟩
end
end
def h443 {h:aN} {T F n:Nat} {sb:Int->Int->Prop} (H:HM h T sb) {U:Gr} {W:List (Nat×Nat)} {o:List dF} (hF:F<=1000000):∀(c k:Nat) (wt:List dF) (par ty:List Int) (ar:List (List cD)) (rep d:Nat->Nat),
  cnt n rep<=c->wt.length<=k->wt.length+cnt n rep *F<=500000000->JI T (AO F n) sb U n W wt par ty ar rep d->
  (∃q z w G d',Af wt o h.Types h.bJ par ty ar=some (true,q,z,w)/\JI T (AO F n) sb U n W [] q z w G d')\/
  ((∃q z w,Af wt o h.Types h.bJ par ty ar=some (false,q,z,w))/\∀C m,Det C->Uj sb U n W C m->False):=by
 intro c;induction c using Nat.strongRecOn with
 |ind c ihc=>
 intro k;induction k with
 |zero=>intro wt par ty ar rep d hc hk hb J;have e:wt=[]:=nU.1 af;subst e;exact .inl ⟨par,ty,ar,rep,d,Vx (by rw[cond_neg (by rfl)]),J⟩
 |succ k ihk=>
  intro wt par ty ar rep d hc hk hb J;rcases List.eq_nil_or_concat wt with rfl|⟨L,p,rfl⟩
  .exact .inl ⟨par,ty,ar,rep,d,Vx (by rw[cond_neg (by rfl)]),J⟩
  .rw[List.concat_eq_append] at *;have hl:(L++[p]).length=L.length+1:=ai;rw[hl] at hk hb;obtain⟨⟨p1,p2⟩,p3,p4⟩:=J.wo p ai;obtain⟨B,hx0⟩:=gm p1;obtain⟨D,hx1⟩:=gm p3;have hx0n:B<n:=af;have hx1n:D<n:=af;have r0:p.a0.toNat=B:=af;have r1:p.a1.toNat=D:=af;obtain⟨pa,f1,P1⟩:=c485 (TL:=h.Types) (FL:=h.bJ) (ty:=ty) (ar:=ar) hx0n J.pi;obtain⟨V,f2,P2⟩:=c485 (TL:=h.Types) (FL:=h.bJ) (ty:=ty) (ar:=ar) hx1n P1;have J2:=J.qG P2;have hgN:∀{R:Type} (k:dF->Option R),eG (L++[p]) L.length k=k p:=λk=>lB ai k
   have step:∀(r:Bool×List Int×List Int×List (List cD)),(bif(((rep B:Nat):Int) !=((rep D:Nat):Int)) then(
     JJ (f486 ((rep B:Nat):Int) ((rep D:Nat):Int) h.Types h.bJ L V ty ar) λy215 w218 w219 w220 w221=>bif(!y215) then some (false,w219,w220,w221) else Af w218 o h.Types h.bJ w219 w220 w221)
     else Af L o h.Types h.bJ V ty ar)=some r->Af (L++[p]) o h.Types h.bJ par ty ar=some r:=by
    intro r hr;refine Vx ?_;rw[hl,cond_pos (by rw[bB];omega),oz af,Bv af,bg,hgN,bU ⟨af,af⟩,hx0,f1,cK,hx1,f2,cK,uV rfl];exact hr
   by_cases P:rep B=rep D
   .have J3:=J2.skip (by rw[r0,r1];exact P);rcases ihk L V ty ar rep d hc af af J3 with⟨q,z,w,G,d',g1,g2⟩|⟨⟨q,z,w,g1⟩,g2⟩
    .exact .inl ⟨q,z,w,G,d',step _ (by rw[cond_neg (by rw[P];simp)];exact g1),g2⟩
    .exact .inr ⟨⟨q,z,w,step _ (by rw[cond_neg (by rw[P];simp)];exact g1)⟩,g2⟩
   .have ha:rep p.a0.toNat=rep B:=by rw[r0]
    have S:rep p.a1.toNat=rep D:=by rw[r1]
    obtain⟨N,I,hra,hrb⟩:=J2.rn ha S;have hal:rep B<ar.length:=by rw[J.la];exact N
    have hbl:rep D<ar.length:=by rw[J.la];exact I
    have Xr:rep B<ty.length:=by rw[J.lt];exact N
    have hbt:rep D<ty.length:=by rw[J.lt];exact I
    have hbp:rep D<V.length:=by rw[P2.len];exact I
    have hb1:(((rep B:Nat):Int) !=((rep D:Nat):Int))=true:=by rw[nP];omega
    have ta:=J.tr _ N;have tb:=J.tr _ I;rcases H.mt _ _ ta.1 ta.2 tb.1 tb.2 with⟨t,m1,m2,m3,m4,m5⟩|⟨t,m1,m2,m3⟩
    .have la:=(J.ao _ N).len;have lb:=(J.ao _ I).len;have M:=HJ _ (ar.getD (rep B) []) (ar.getD (rep D) []) (aU _);have J3:=J2.merge ha S P (λl hl c hc=>(hl.ok c hc).2) (λh1 h2=>H.to.trans h1 h2) M ((J.ao _ N).mg (J.ao _ I)) (H.to.rr m3) m3 m4 m5;have hcm:=MU J2 ha S P;have f3:f486 ((rep B:Nat):Int) ((rep D:Nat):Int) h.Types h.bJ L V ty ar=some (true,L++(mg (ar.getD (rep B) []) (ar.getD (rep D) [])).2,V.set (rep D) ((rep B:Nat):Int),ty.set (rep B) t,ar.set (rep B) (mg (ar.getD (rep B) []) (ar.getD (rep D) [])).1):=by
      refine e486 ?_;rw[tT Xr,tT hbt];rw[show(aN.mk h.Types h.bJ)=h from rfl,m1,aj,cond_neg (by rfl),tT hbp,tT Xr,rdL hal,rdL hbl,bg,bg,h486 hal _ _ _ _ _ (aU _) (by simp only[dH];omega) af,dK]
     have hmul:(cnt n (λx=>if rep x=rep D then rep B else rep x)+1) *F<=cnt n rep *F:=jV F hcm;rw[ny] at hmul;have hml:=M.le;rcases ihc _ (e8 (Nat.lt_of_succ_le hcm) hc) (L++(mg (ar.getD (rep B) []) (ar.getD (rep D) [])).2).length _ _ _ _ _ _ (aU _) (aU _) (by rw[cF];omega) J3 with⟨q,z,w,G,d',g1,g2⟩|⟨⟨q,z,w,g1⟩,g2⟩
     .exact .inl ⟨q,z,w,G,d',step _ (by rw[cond_pos hb1,f3,zB,cond_neg (by rfl)];exact g1),g2⟩
     .exact .inr ⟨⟨q,z,w,step _ (by rw[cond_pos hb1,f3,zB,cond_neg (by rfl)];exact g1)⟩,g2⟩
    .have f3:f486 ((rep B:Nat):Int) ((rep D:Nat):Int) h.Types h.bJ L V ty ar=some (false,L,V,ty,ar):=by
      refine e486 ?_;rw[tT Xr,tT hbt];rw[show(aN.mk h.Types h.bJ)=h from rfl,m1,aj,cond_pos (by rfl)]
     exact .inr ⟨⟨_,_,_,step _ (by rw[cond_pos hb1,f3,zB,cond_pos (by rfl)])⟩,J2.no ha S m3⟩
def aba (n:Nat) (rep:Nat->Nat):cnt n rep<=n:=by grind[cnt]
def c443 {h:aN} {T F n:Nat} {sb:Int->Int->Prop} (H:HM h T sb) {U:Gr} {W:List (Nat×Nat)} (I:F<=1000000) {par ty:List Int} {ar:List (List cD)} {rep d:Nat->Nat} {a b:Nat} (ha:a<n) (hb:b<n) (N:n *F<=400000000) (J:JI T (AO F n) sb U n W [] par ty ar rep d):
  (∃l w q z B,f443 (a:Int) (b:Int) h.Types h.bJ par ty ar=some (true,l,w,q)/\JI T (AO F n) sb U n (W++[(a,b)]) [] l w q z B)\/
  ((∃l w q,f443 (a:Int) (b:Int) h.Types h.bJ par ty ar=some (false,l,w,q))/\∀C m,Det C->Uj sb U n (W++[(a,b)]) C m->False):=by
 have L:cnt n rep *F<=n *F:=jV F (aba n _);rcases h443 H (o:=[]) I _ 1 _ _ _ _ _ d (aU _) ai (by grind) (J.start ha hb) with⟨l,w,q,z,B,D,G⟩|⟨⟨l,w,q,D⟩,G⟩
 .grind[e443]
 simp_all[e443]
def mj (ty:List Int) (ar:List (List cD)) (rep:Nat->Nat):Gr:=⟨λx=>(ar.getD x []).map λa=>(a.bN,rep a.To.toNat),λx=>ty.getD x 0⟩
def JI.uni {T F n:Nat} {sb:Int->Int->Prop} {U:Gr} {W:List (Nat×Nat)} {par ty:List Int} {ar:List (List cD)} {rep d:Nat->Nat} (J:JI T (AO F n) sb U n W [] par ty ar rep d) (N:Bd U.sc n):YY T F sb U n W (mj ty ar rep) rep:=by
 refine⟨⟨λx l p q=> ?_,λx l=> ?_,λx l p q=> ?_,λx l=>J.tr x l⟩,J.pi.rl,J.pi.rr,λx l p q=> ?_,⟨J.sty,λx l p q=> ?_,λp q=>(J.seq p q).done⟩,λC m I L x l=> ?_⟩
 .obtain⟨a,ha,rfl⟩:=aD.1 q;exact J.pi.rl _ (by have:=((J.ao x l).ok a ha).2;omega)
 .show CO (List.map _ _);unfold CO;rw[kO];exact(J.ao x l).Ay
 .obtain⟨a,ha,rfl⟩:=aD.1 q;exact((J.ao x l).ok a ha).1
 .obtain⟨a,ha,rfl⟩:=aD.1 q;exact J.pi.rr _ (by have:=((J.ao x l).ok a ha).2;omega)
 .obtain⟨a,ha,D,G⟩:=J.sar x l p q;refine aD.2 ⟨a,ha,?_⟩;rw[D,G.done]
 .obtain⟨e1,B,_⟩:=J.dD C m I L;obtain⟨w,z⟩:=B (rep x) (J.pi.rl x l) (J.pi.rr x l);rw[e1 x l] at w z;refine⟨e1 x l,w,λp q=> ?_⟩;obtain⟨a,ha,rfl⟩:=aD.1 q;show(a.bN,m (rep a.To.toNat))∈_;rw[e1 _ (by have:=((J.ao _ (J.pi.rl x l)).ok a ha).2;omega)];exact z a ha
