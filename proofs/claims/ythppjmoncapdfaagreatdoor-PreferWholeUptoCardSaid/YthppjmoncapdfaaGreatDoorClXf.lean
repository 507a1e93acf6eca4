/- Unification by classes (the program's). -/
import Derived.Test.YthppjmoncapdfaaGreatDoorClXc
import Derived.Test.YthppjmoncapdfaaGreatDoorClSh
set_option linter.all false
open Int (toNat)
open List (length replicate)
namespace Go.Proofs.YthppjmoncapdfaaGreatDoor.cl.pf
open Go Go.AM
section
variable {R:Type}
theorem CM {l:List Int} {i:Nat} (h:i<l.length) (k:Int→Option R):check (0≤(i:Int)∧toNat (i:Int)<l.length) (gj l (toNat (i:Int)) k)=k (l.getD i 0):=by
 rw [bp ⟨by omega,by simpa using h⟩,aR];exact Vs h k
theorem rdL {α:Type} {l:List (List α)} {i:Nat} (h:i<l.length) (k:List α→Option R):check (0≤(i:Int)∧toNat (i:Int)<l.length) (gj l (toNat (i:Int)) k)=k (l.getD i []):=by
 rw [bp ⟨by omega,by simpa using h⟩,aR];exact Vs h k
theorem DB {l:Nat} {i:Nat} (h:i<l) (a:Option R):check (0≤(i:Int)∧toNat (i:Int)<l) a=a:=bp ⟨by omega,by simpa using h⟩ a
theorem gG {U0 U1 U2 U3:Type} (a:U0) (b:U1) (c:U2) (d:U3) (k:U0→U1→U2→U3→Option R):ua (some (a,b,c,d)) k=k a b c d:=rfl
theorem su {U0 U1 U2 U3 U4:Type} (a:U0) (b:U1) (c:U2) (d:U3) (e:U4) (k:U0→U1→U2→U3→U4→Option R):FQ (some (a,b,c,d,e)) k=k a b c d e:=rfl
theorem Io {U0 U1 U2 U3 U4 U5:Type} (a:U0) (b:U1) (c:U2) (d:U3) (e:U4) (g:U5) (k:U0→U1→U2→U3→U4→U5→Option R):Pr (some (a,b,c,d,e,g)) k=k a b c d e g:=rfl
end
theorem gi {α:Type} (l:List α) (i j:Nat) (v d:α):(l.set i v).getD j d=if i=j∧j<l.length then v else l.getD j d:=by
 rw [aQ,aQ,oP];by_cases e:i=j
 ·subst e
  by_cases h:i<l.length
  ·simp [h]
  ·simp [h]
 ·simp [e]
structure PI (n:Nat) (par:List Int) (rep d:Nat→Nat):Prop where
 len:par.length=n
 up:∀x,x<n→∃y,y<n∧par.getD x 0=(y:Int)∧rep y=rep x∧(y=x∨d y<d x)
 fix:∀x,x<n→(par.getD x 0=(x:Int)↔rep x=x)
 rl:∀x,x<n→rep x<n
 rr:∀x,x<n→rep (rep x)=rep x
section
variable {n:Nat} {rep d:Nat→Nat} {TL:List iy} {FL:List dH} {ty:List Int} {ar:List (List cF)}
theorem h485:∀(k x:Nat) (par:List Int),d x≤k→x<n→PI n par rep d→∃par',Ku (x:Int) TL FL par ty ar=some (((rep x:Nat):Int),par',ty,ar)∧PI n par' rep d:=by
 intro k
 induction k with
 |zero=>
  intro x par hk hx P;obtain ⟨y,hy,h1,h2,h3⟩:=P.up x hx;have hxl:x<par.length:=by rw [P.len];exact hx
  have e:y=x:=by omega
  subst e;refine ⟨par,TQ ?_,P⟩;rw [CM hxl,h1,cond_neg (by simp),(P.fix y hx).1 h1]
 |succ k ih=>
  intro x par hk hx P;obtain ⟨y,hy,h1,h2,h3⟩:=P.up x hx;have hxl:x<par.length:=by rw [P.len];exact hx
  have hyl:y<par.length:=by rw [P.len];exact hy
  by_cases e:y=x
  ·subst e
   refine ⟨par,TQ ?_,P⟩;rw [CM hxl,h1,cond_neg (by simp),(P.fix y hx).1 h1]
  ·have h3:d y<d x:=by omega
   obtain ⟨z,hz,g1,g2,g3⟩:=P.up y hy;have hdz:d z<d x:=by rcases g3 with rfl|g3<;>omega
   have P':PI n (par.set x z) rep d:=by
    refine ⟨by rw [jd];exact P.len,fun w hw=> ?_,fun w hw=> ?_,P.rl,P.rr⟩
    ·by_cases ew:x=w
     ·subst ew
      exact ⟨z,hz,by rw [gi,au ⟨rfl,hxl⟩],by rw [g2,h2], .inr hdz⟩
     ·obtain ⟨v,hv⟩:=P.up w hw
      exact ⟨v,hv.1,by rw [gi,ak (fun h=>ew h.1)];exact hv.2.1,hv.2.2⟩
    ·by_cases ew:x=w
     ·subst ew
      rw [gi,au ⟨rfl,hxl⟩];have hxz:z≠x:=fun e=>by rw [e] at hdz;omega
      have:=P.fix x hx;rw [h1] at this;constructor
      ·intro h;omega
      ·intro h;have:=this.2 h;omega
     ·rw [gi,ak (fun h=>ew h.1)];exact P.fix w hw
   obtain ⟨par',r1,r2⟩:=ih z (par.set x z) (by omega) hz P';refine ⟨par',TQ ?_,r2⟩;rw [CM hxl,h1,cond_pos (by simp;omega),CM hxl,h1,CM hyl,g1,CM hxl,aR];have hs:x<(par.set x (z:Int)).length:=by rw [jd];exact hxl
   have h0:=CM hs (fun p9=>Ku p9 TL FL (par.set x (z:Int)) ty ar);rw [aR] at h0;rw [h0,gi,au ⟨rfl,hxl⟩,r1,g2,h2]
theorem c485 {x:Nat} {par:List Int} (hx:x<n) (P:PI n par rep d):∃par',f485 (x:Int) TL FL par ty ar=some (((rep x:Nat):Int),par',ty,ar)∧PI n par' rep d:=by
 obtain ⟨par',h1,h2⟩:=h485 (TL:=TL) (FL:=FL) (ty:=ty) (ar:=ar) (d x) x par (aS _) hx P;exact ⟨par',e485 h1,h2⟩
end
def mg:List cF→List cF→List cF×List fo
 |[],ys=>(ys,[])
 |x::xs,[]=>(x::xs,[])
 |x::xs,y::ys=>
  if x.aY<y.aY then (x::(mg xs (y::ys)).1,(mg xs (y::ys)).2)
  else if y.aY<x.aY then (y::(mg (x::xs) ys).1,(mg (x::xs) ys).2)
  else (x::(mg xs ys).1,⟨x.To,y.To⟩::(mg xs ys).2)
 termination_by x y=>x.length+y.length
theorem Fc (ys:List cF):mg [] ys=(ys,[]):=by rw [mg]
theorem Ht (xs:List cF):mg xs []=(xs,[]):=by cases xs<;>rw [mg]
theorem abV {x y:cF} (xs ys:List cF) (h:x.aY<y.aY):mg (x::xs) (y::ys)=(x::(mg xs (y::ys)).1,(mg xs (y::ys)).2):=by rw [mg,au h]
theorem abU {x y:cF} (xs ys:List cF) (h:y.aY<x.aY):mg (x::xs) (y::ys)=(y::(mg (x::xs) ys).1,(mg (x::xs) ys).2):=by rw [mg,ak (by omega),au h]
theorem abT {x y:cF} (xs ys:List cF) (h:x.aY=y.aY):mg (x::xs) (y::ys)=(x::(mg xs ys).1,⟨x.To,y.To⟩::(mg xs ys).2):=by rw [mg,ak (by omega),ak (by omega)]
structure MG (x y:List cF) (r:List cF×List fo):Prop where
 sub:∀a∈r.1,a∈x∨a∈y
 left:∀a∈x,a∈r.1
 right:∀a∈y,∃b∈r.1,b.aY=a.aY∧(b=a∨⟨b.To,a.To⟩∈r.2)
 pair:∀p∈r.2,∃a∈x,∃b∈y,a.aY=b.aY∧p=⟨a.To,b.To⟩
 le:r.2.length≤y.length
def EI (l:List cF):Prop:=l.Pairwise fun p q=>p.aY<q.aY
theorem Gb:∀(k:Nat) (x y:List cF),x.length+y.length≤k→MG x y (mg x y)
 |_,[],y,_=>by rw [Fc];exact ⟨fun a h=> .inr h,fun a h=>by (cases h),fun a h=>⟨a,h,rfl, .inl rfl⟩,fun p h=>by (cases h),dh _⟩
 |_,x::xs,[],_=>by rw [Ht];exact ⟨fun a h=> .inl h,fun a h=>h,fun a h=>by (cases h),fun p h=>by (cases h),dh _⟩
 |0,x::xs,y::ys,h=>by simp at h
 |k+1,x::xs,y::ys,h=>by
  simp only [bg] at h;rcases yf x.aY y.aY with hlt|heq|hgt
  ·rw [abV _ _ hlt]
   have M:=Gb k xs (y::ys) (by simp only [bg];omega);refine ⟨fun a h=> ?_,fun a h=> ?_,fun a h=> ?_,fun p h=> ?_,M.le⟩
   ·rcases aD.1 h with rfl|h
    ·exact .inl (by simp)
    ·rcases M.sub a h with h|h
     ·exact .inl (by simp [h])
     ·exact .inr h
   ·rcases aD.1 h with rfl|h
    ·simp
    ·exact dW _ (M.left a h)
   ·obtain ⟨b,hb,h2⟩:=M.right a h
    exact ⟨b,dW _ hb,h2⟩
   ·obtain ⟨a,ha,b,hb,h2⟩:=M.pair p h
    exact ⟨a,dW _ ha,b,hb,h2⟩
  ·rw [abT _ _ heq]
   have M:=Gb k xs ys (by omega);refine ⟨fun a h=> ?_,fun a h=> ?_,fun a h=> ?_,fun p h=> ?_,by simp only [bg];have:=M.le;omega⟩
   ·rcases aD.1 h with rfl|h
    ·exact .inl (by simp)
    ·rcases M.sub a h with h|h
     ·exact .inl (by simp [h])
     ·exact .inr (by simp [h])
   ·rcases aD.1 h with rfl|h
    ·simp
    ·exact dW _ (M.left a h)
   ·rcases aD.1 h with rfl|h
    ·exact ⟨x,by simp,heq, .inr (by simp)⟩
    ·obtain ⟨b,hb,h2,h3⟩:=M.right a h
     exact ⟨b,dW _ hb,h2,h3.imp id (dW _)⟩
   ·rcases aD.1 h with rfl|h
    ·exact ⟨x,by simp,y,by simp,heq,rfl⟩
    ·obtain ⟨a,ha,b,hb,h2⟩:=M.pair p h
     exact ⟨a,dW _ ha,b,dW _ hb,h2⟩
  ·rw [abU _ _ hgt]
   have M:=Gb k (x::xs) ys (by simp only [bg];omega);refine ⟨fun a h=> ?_,fun a h=> ?_,fun a h=> ?_,fun p h=> ?_,by simp only [bg];have:=M.le;omega⟩
   ·rcases aD.1 h with rfl|h
    ·exact .inr (by simp)
    ·rcases M.sub a h with h|h
     ·exact .inl h
     ·exact .inr (by simp [h])
   ·exact dW _ (M.left a h)
   ·rcases aD.1 h with rfl|h
    ·exact ⟨a,by simp,rfl, .inl rfl⟩
    ·obtain ⟨b,hb,h2,h3⟩:=M.right a h
     exact ⟨b,dW _ hb,h2,h3⟩
   ·obtain ⟨a,ha,b,hb,h2⟩:=M.pair p h
    exact ⟨a,ha,b,dW _ hb,h2⟩
theorem Nd:∀(k:Nat) (x y:List cF),x.length+y.length≤k→EI x→EI y→EI (mg x y).1
 |_,[],y,_,_,h=>by rw [Fc];exact h
 |_,x::xs,[],_,h,_=>by rw [Ht];exact h
 |0,x::xs,y::ys,h,_,_=>by simp at h
 |k+1,x::xs,y::ys,h,hx,hy=>by
  simp only [bg] at h;have hx':=dX.1 hx;have hy':=dX.1 hy;rcases yf x.aY y.aY with hlt|heq|hgt
  ·rw [abV _ _ hlt]
   refine dX.2 ⟨fun a ha=> ?_,Nd k xs (y::ys) (by simp only [bg];omega) hx'.2 hy⟩;rcases (Gb k xs (y::ys) (by simp only [bg];omega)).sub a ha with h|h
   ·exact hx'.1 a h
   ·rcases aD.1 h with rfl|h
    ·exact hlt
    ·have:=hy'.1 a h;omega
  ·rw [abT _ _ heq]
   refine dX.2 ⟨fun a ha=> ?_,Nd k xs ys (by omega) hx'.2 hy'.2⟩;rcases (Gb k xs ys (by omega)).sub a ha with h|h
   ·exact hx'.1 a h
   ·have:=hy'.1 a h;omega
  ·rw [abU _ _ hgt]
   refine dX.2 ⟨fun a ha=> ?_,Nd k (x::xs) ys (by simp only [bg];omega) hx hy'.2⟩;rcases (Gb k (x::xs) ys (by simp only [bg];omega)).sub a ha with h|h
   ·rcases aD.1 h with rfl|h
    ·exact hgt
    ·have:=hx'.1 a h;omega
   ·exact hy'.1 a h
theorem Bm {α:Type} (x:α) (l:List α):((x::l).take (length (x::l))).drop (toNat (1:Int))=l:=by
 rw [gw];rfl
theorem AX {α R:Type} (x:α) (l:List α) (a:Option R):check (0≤(1:Int)∧(1:Int)≤(length (x::l):Nat)) a=a:=bp ⟨by omega,by simp only [bg];omega⟩ a
theorem iN {α R:Type} (x:α) (l:List α) (k:α→Option R):bw (x::l) 0 k=k x:=IU (by omega) rfl k
theorem h486 {a:Nat} {TL:List iy} {FL:List dH} {par ty:List Int} {ar:List (List cF)} (ha:a<ar.length):∀(k:Nat) (x y acc:List cF) (wt:List fo),x.length+y.length≤k→x.length+y.length+acc.length≤1000000000→wt.length+y.length≤1000000000→
  nH (a:Int) x y acc TL FL wt par ty ar=some (true,wt++(mg x y).2,par,ty,ar.set a (acc++(mg x y).1)):=by
 intro k
 induction k with
 |zero=>
  intro x y acc wt hk _ _;have hx:x=[]:=nC.1 (by omega);have hy:y=[]:=nC.1 (by omega);subst hx;subst hy;refine abI ?_;rw [cond_neg (by rfl),cond_neg (by rfl),rdL ha,Fc,eU,eU,aR]
 |succ k ih=>
  intro x y acc wt hk hacc hwt;refine abI ?_;have P:∀{α:Type} (x:α) (l:List α),decide ((length (x::l):Int)>0)=true:=fun x l=>by rw [bB,bg];omega
  have Z:∀{α:Type} (x:α) (l:List α),((length (x::l):Int)==0)=false:=fun x l=>by rw [gv,bg];omega
  cases x with
  |nil=>
   cases y with
   |nil=>rw [cond_neg (by rfl),cond_neg (by rfl),rdL ha,Fc,eU,eU,aR]
   |cons y ys=>
    simp only [bg,eE] at hk hacc hwt
    rw [cond_neg (by rfl),cond_pos (P y ys),cond_neg (Z y ys),cond_neg (by rfl),cond_pos (by rfl),iN,cz _ (by omega) (by simp) (by omega),AX,Bm,
     ih [] ys (acc++[y]) wt (by simp;omega) (by simp;omega) (by omega),Fc,Fc]
    simp
  |cons x xs=>
   cases y with
   |nil=>
    simp only [bg,eE] at hk hacc hwt
    rw [cond_pos (P x xs),cond_pos (by rfl),iN,cz _ (by omega) (by simp) (by omega),AX,Bm,
     ih xs [] (acc++[x]) wt (by simp;omega) (by simp;omega) (by simp;omega),Ht,Ht]
    simp
   |cons y ys=>
    simp only [bg] at hk hacc hwt;rw [cond_pos (P x xs),cond_neg (Z y ys),cond_pos (P x xs),iN,iN];rcases yf x.aY y.aY with hlt|heq|hgt
    ·rw [cond_pos (by rw [bB];exact hlt),iN,cz _ (by omega) (by simp) (by omega),AX,Bm,
      ih xs (y::ys) (acc++[x]) wt (by simp;omega) (by simp;omega) (by simp;omega),abV _ _ hlt]
     simp
    ·rw [cond_neg (by rw [bA];omega),cond_neg (Z x xs),iN,iN,cond_neg (by rw [bA];omega),iN,iN,cz _ (by omega) (by simp) (by omega),iN,cz _ (by omega) (by simp) (by omega),AX,AX,Bm,Bm,
      ih xs ys (acc++[x]) _ (by omega) (by simp;omega) (by simp;omega),abT _ _ heq]
     simp
    ·rw [cond_neg (by rw [bA];omega),cond_neg (Z x xs),iN,iN,cond_pos (by rw [bB];exact hgt),iN,cz _ (by omega) (by simp) (by omega),AX,Bm,
      ih (x::xs) ys (acc++[y]) wt (by simp;omega) (by simp;omega) (by omega),abU _ _ hgt]
     simp
end Go.Proofs.YthppjmoncapdfaaGreatDoor.cl.pf
namespace Go.Proofs.YthppjmoncapdfaaGreatDoor.cl.pf
open Go Go.AM
structure HM (h:bZ) (T:Nat) (sb:Int→Int→Prop):Prop where
 to:TO T sb
 mt:∀a b:Int,0≤a→a<(T:Int)→0≤b→b<(T:Int)→
  (∃t,f335 h a b=some (t,true)∧f336 h a b=some (t,true)∧sb a t∧sb b t∧∀c,sb a c→sb b c→sb t c)∨
  (∃t,f335 h a b=some (t,false)∧f336 h a b=some (t,false)∧∀c,sb a c→sb b c→False)
def Ro (l:List fo):List (Nat×Nat):=l.map fun p=>(p.a0.toNat,p.a1.toNat)
def Br (rep:Nat→Nat) (wt:List (Nat×Nat)) (x y:Nat):Prop:=∀E:Nat→Nat→Prop,Equivalence E→(∀a b,rep a=rep b→E a b)→(∀p∈wt,E p.1 p.2)→E x y
theorem Br.imp {rep Fj:Nat→Nat} {wt wt':List (Nat×Nat)} {x y:Nat} (h1:∀a b,rep a=rep b→Br Fj wt' a b) (h2:∀p∈wt,Br Fj wt' p.1 p.2) (h:Br rep wt x y):Br Fj wt' x y:=
 fun E he hr hw=>h E he (fun a b hab=>h1 a b hab E he hr hw) fun p hp=>h2 p hp E he hr hw
theorem Br.Fg {rep:Nat→Nat} {wt:List (Nat×Nat)} {x y:Nat} (h:rep x=rep y):Br rep wt x y:=fun E _ hr _=>hr x y h
theorem Br.Wk {rep:Nat→Nat} {wt:List (Nat×Nat)} {p:Nat×Nat} (h:p∈wt):Br rep wt p.1 p.2:=fun E _ _ hw=>hw p h
theorem Br.symm {rep:Nat→Nat} {wt:List (Nat×Nat)} {x y:Nat} (h:Br rep wt x y):Br rep wt y x:=fun E he hr hw=>he.symm (h E he hr hw)
theorem Br.trans {rep:Nat→Nat} {wt:List (Nat×Nat)} {x y z:Nat} (h:Br rep wt x y) (h':Br rep wt y z):Br rep wt x z:=fun E he hr hw=>he.trans (h E he hr hw) (h' E he hr hw)
theorem Br.done {rep:Nat→Nat} {x y:Nat} (h:Br rep [] x y):rep x=rep y:=
 h (fun a b=>rep a=rep b) ⟨fun _=>rfl,fun h=>h.symm,fun h h'=>h.trans h'⟩ (fun _ _ h=>h) (fun p hp=>by cases hp)
structure AO (F n:Nat) (l:List cF):Prop where
 Bo:EI l
 ok:∀a∈l,(0≤a.aY∧a.aY<(F:Int))∧0≤a.To∧a.To<(n:Int)
theorem AO.len {F n:Nat} {l:List cF} (h:AO F n l):l.length≤F:=by
 have:=zk (N:=F) (o:=l.map fun a=>a.aY.toNat) (by
  have h1:=h.Bo;have h2:=h.ok;clear h
  induction l with
  |nil=>simp
  |cons x l ih=>
   have hp:=dX.1 h1;rw [aP,fE];refine ⟨fun hm=> ?_,ih hp.2 fun a ha=>h2 a (by simp [ha])⟩;obtain ⟨y,hy,e⟩:=aB.1 hm;have:=hp.1 y hy;have:=(h2 x (by simp)).1;have:=(h2 y (by simp [hy])).1
   omega) (fun x hx=>by
  obtain ⟨y,hy,rfl⟩:=aB.1 hx;have:=(h.ok y hy).1
  omega)
 simpa using this
theorem AO.mg {F n:Nat} {x y:List cF} (hx:AO F n x) (hy:AO F n y):AO F n (mg x y).1:=
 ⟨Nd _ x y (aS _) hx.Bo hy.Bo,fun a ha=>((Gb _ x y (aS _)).sub a ha).elim (hx.ok a) (hy.ok a)⟩
structure JI (T:Nat) (Q:List cF→Prop) (sb:Int→Int→Prop) (U:Gr) (n:Nat) (W:List (Nat×Nat)) (wt:List fo) (par ty:List Int) (ar:List (List cF)) (rep d:Nat→Nat):Prop where
 pi:PI n par rep d
 lt:ty.length=n
 la:ar.length=n
 tr:∀x,x<n→0≤ty.getD x 0∧ty.getD x 0<(T:Int)
 ao:∀x,x<n→Q (ar.getD x [])
 wo:∀p∈wt,(0≤p.a0∧p.a0<(n:Int))∧0≤p.a1∧p.a1<(n:Int)
 sty:∀x,x<n→sb (U.ty x) (ty.getD (rep x) 0)
 sar:∀x,x<n→∀p∈U.sc x,∃a∈ar.getD (rep x) [],a.aY=p.1∧Br rep (Ro wt) p.2 a.To.toNat
 seq:∀p∈W,Br rep (Ro wt) p.1 p.2
 eH:∀C m,YV C→YM sb U n W C m→(∀x,x<n→m (rep x)=m x)∧(∀x,x<n→rep x=x→sb (ty.getD x 0) (C.ty (m x))∧∀a∈ar.getD x [],(a.aY,m a.To.toNat)∈C.sc (m x))∧∀p∈Ro wt,m p.1=m p.2
def cnt (n:Nat) (rep:Nat→Nat):Nat:=((List.range n).filter fun x=>rep x==x).length
section
variable {T:Nat} {Q:List cF→Prop} {sb:Int→Int→Prop} {U:Gr} {n:Nat} {W:List (Nat×Nat)} {wt:List fo} {par ty:List Int} {ar:List (List cF)} {rep d:Nat→Nat}
theorem Aq (p:fo):Ro (wt++[p])=Ro wt++[(p.a0.toNat,p.a1.toNat)]:=by simp [Ro]
theorem JI.r6 (h:JI T Q sb U n W wt par ty ar rep d) {par':List Int} {d':Nat→Nat} (hp:PI n par' rep d'):JI T Q sb U n W wt par' ty ar rep d':={ h with pi:=hp }
theorem JI.skip {p:fo} (h:JI T Q sb U n W (wt++[p]) par ty ar rep d) (e:rep p.a0.toNat=rep p.a1.toNat):JI T Q sb U n W wt par ty ar rep d:=by
 have key:∀{x y},Br rep (Ro (wt++[p])) x y→Br rep (Ro wt) x y:=fun {x y}=>Br.imp (fun a b hab=> .Fg hab) fun q hq=>by
  rw [Aq] at hq;rcases bC.1 hq with hq|hq
  ·exact .Wk hq
  ·rw [bP] at hq;subst hq;exact .Fg e
 refine { h with wo:=fun q hq=>h.wo q (by simp [hq]),sar:=fun x hx q hq=> ?_,seq:=fun q hq=>key (h.seq q hq),eH:=fun C m hC hs=> ?_ }
 ·obtain ⟨a,h1,h2,h3⟩:=h.sar x hx q hq
  exact ⟨a,h1,h2,key h3⟩
 ·obtain ⟨h1,h2,h3⟩:=h.eH C m hC hs
  exact ⟨h1,h2,fun q hq=>h3 q (by rw [Aq];simp [hq])⟩
theorem JI.start {a b:Nat} (h:JI T Q sb U n W [] par ty ar rep d) (ha:a<n) (hb:b<n):JI T Q sb U n (W++[(a,b)]) [⟨a,b⟩] par ty ar rep d:=by
 have key:∀{x y},Br rep (Ro []) x y→Br rep (Ro [⟨(a:Int),b⟩]) x y:=fun {x y}=>Br.imp (fun a b hab=> .Fg hab) fun q hq=>by cases hq
 refine { h with wo:=fun q hq=> ?_,sar:=fun x hx q hq=> ?_,seq:=fun q hq=> ?_,eH:=fun C m hC hs=> ?_ }
 ·rw [bP] at hq;subst hq;exact ⟨⟨by show 0≤(a:Int);omega,by show (a:Int)<n;omega⟩,by show 0≤(b:Int);omega,by show (b:Int)<n;omega⟩
 ·obtain ⟨c,h1,h2,h3⟩:=h.sar x hx q hq
  exact ⟨c,h1,h2,key h3⟩
 ·rcases bC.1 hq with hq|hq
  ·exact key (h.seq q hq)
  ·rw [bP] at hq;subst hq
   exact Br.Wk (p:=(a,b)) (by simp [Ro])
 ·obtain ⟨h1,h2,h3⟩:=h.eH C m hC { hs with eq:=fun p hp=>hs.eq p (by simp [hp]) }
  refine ⟨h1,h2,fun q hq=> ?_⟩;simp only [Ro,aP,dV,bP] at hq;subst hq;exact hs.eq (a,b) (by simp)
section
variable {p:fo} (h:JI T Q sb U n W (wt++[p]) par ty ar rep d) {a b:Nat} (ha:rep p.a0.toNat=a) (hb:rep p.a1.toNat=b) (hab:a≠b)
include h
theorem JI.pn:p.a0.toNat<n∧p.a1.toNat<n:=by
 have:=h.wo p (by simp);omega
include ha hb
theorem JI.rn:a<n∧b<n∧rep a=a∧rep b=b:=by
 obtain ⟨h1,h2⟩:=h.pn;have h3:=h.pi.rl _ h1;have h4:=h.pi.rl _ h2;have h5:=h.pi.rr _ h1;have h6:=h.pi.rr _ h2;rw [ha] at h3 h5;rw [hb] at h4 h6;exact ⟨h3,h4,h5,h6⟩
theorem JI.meq {C:Gr} {m:Nat→Nat} (hC:YV C) (hs:YM sb U n W C m):m a=m b:=by
 obtain ⟨h1,h2⟩:=h.pn;obtain ⟨e1,_,e3⟩:=h.eH C m hC hs;have:=e3 (p.a0.toNat,p.a1.toNat) (by rw [Aq];simp);rw [←ha,←hb,e1 _ h1,e1 _ h2];exact this
theorem JI.no (hm:∀c,sb (ty.getD a 0) c→sb (ty.getD b 0) c→False) (C:Gr) (m:Nat→Nat) (hC:YV C) (hs:YM sb U n W C m):False:=by
 obtain ⟨h1,h2,h3,h4⟩:=h.rn ha hb;obtain ⟨_,e2,_⟩:=h.eH C m hC hs;refine hm _ (e2 a h1 h3).1 ?_;rw [h.meq ha hb hC hs];exact (e2 b h2 h4).1
include hab
theorem JI.merge (hQ:∀l,Q l→∀c∈l,0≤c.To∧c.To<(n:Int)) (hT:∀{a b c},sb a b→sb b c→sb a c) {r:List cF×List fo} (M:MG (ar.getD a []) (ar.getD b []) r) (hq:Q r.1) {t:Int} (t0:0≤t∧t<(T:Int)) (t1:sb (ty.getD a 0) t) (t2:sb (ty.getD b 0) t) (t3:∀c,sb (ty.getD a 0) c→sb (ty.getD b 0) c→sb t c):
  JI T Q sb U n W (wt++r.2) (par.set b a) (ty.set a t) (ar.set a r.1) (fun x=>if rep x=b then a else rep x) (fun x=>if rep x=b then d x+d a+1 else d x):=by
 obtain ⟨Tq,Pa,XP,hrb⟩:=h.rn ha hb;have key:∀{x y},Br rep (Ro (wt++[p])) x y→Br (fun x=>if rep x=b then a else rep x) (Ro (wt++r.2)) x y:=fun {x y}=>Br.imp (fun u v huv=> .Fg (by show (if _ then _ else _)=if _ then _ else _;rw [huv])) fun q hq=>by
  rw [Aq] at hq;rcases bC.1 hq with hq|hq
  ·exact .Wk (by unfold Ro at *;rw [bT];simp [hq])
  ·rw [bP] at hq;subst hq
   refine .Fg ?_;show (if _ then _ else _)=if _ then _ else _
   rw [ha,hb,ak hab,au rfl]
 have CL:b<par.length:=by rw [h.pi.len];exact Pa
 have hne:∀x,rep x=b→x≠a:=fun x e e2=>hab (by rw [←e,e2,XP])
 refine ⟨⟨by rw [jd];exact h.pi.len,fun x hx=> ?_,fun x hx=> ?_,fun x hx=> ?_,fun x hx=> ?_⟩,by rw [jd];exact h.lt,by rw [jd];exact h.la,fun x hx=> ?_,fun x hx=> ?_,fun q hq=> ?_,fun x hx=> ?_,fun x hx q hq=> ?_,fun q hq=>key (h.seq q hq),fun C m hC hs=> ?_⟩
 ·by_cases e:b=x
  ·subst e
   refine ⟨a,Tq,by rw [gi,au ⟨rfl,CL⟩],?_, .inr ?_⟩
   ·show (if _ then _ else _)=if _ then _ else _
    rw [XP,hrb,ak hab,au rfl]
   ·show (if _ then _ else _)<if _ then _ else _
    rw [XP,hrb,ak hab,au rfl];omega
  ·obtain ⟨y,hy,g1,g2,g3⟩:=h.pi.up x hx
   refine ⟨y,hy,by rw [gi,ak (fun h=>e h.1)];exact g1,?_,?_⟩
   ·show (if _ then _ else _)=if _ then _ else _
    rw [g2]
   ·refine g3.imp id fun g3=> ?_
    show (if _ then _ else _)<if _ then _ else _
    rw [g2];by_cases e2:rep x=b
    ·rw [au e2,au e2];omega
    ·rw [ak e2,ak e2];exact g3
 ·show _↔(if rep x=b then a else rep x)=x
  by_cases e:b=x
  ·subst e
   rw [gi,au ⟨rfl,CL⟩,au hrb];omega
  ·rw [gi,ak (fun h=>e h.1),h.pi.fix x hx]
   by_cases e2:rep x=b
   ·rw [au e2]
    have:=hne x e2;omega
   ·rw [ak e2]
 ·show (if _ then _ else _)<n
  split
  ·exact Tq
  ·exact h.pi.rl x hx
 ·show (if rep (if rep x=b then a else rep x)=b then a else rep (if rep x=b then a else rep x))=if rep x=b then a else rep x
  by_cases e2:rep x=b
  ·rw [au e2,XP,ak hab]
  ·rw [ak e2,h.pi.rr x hx,ak e2]
 ·rw [gi]
  split
  ·exact t0
  ·exact h.tr x hx
 ·rw [gi]
  split
  ·exact hq
  ·exact h.ao x hx
 ·rcases bC.1 hq with hq|hq
  ·exact h.wo q (by simp [hq])
  ·obtain ⟨u,hu,v,hv,_,rfl⟩:=M.pair q hq
   exact ⟨hQ _ (h.ao a Tq) u hu,hQ _ (h.ao b Pa) v hv⟩
 ·have h0:=h.sty x hx
  show sb _ ((ty.set a t).getD (if rep x=b then a else rep x) 0);have hal:a<ty.length:=by rw [h.lt];exact Tq
  by_cases e2:rep x=b
  ·rw [au e2,gi,au ⟨rfl,hal⟩]
   rw [e2] at h0;exact hT h0 t2
  ·rw [ak e2]
   by_cases e3:a=rep x
   ·rw [←e3,gi,au ⟨rfl,hal⟩]
    rw [←e3] at h0;exact hT h0 t1
   ·rw [gi,ak (fun h=>e3 h.1)];exact h0
 ·obtain ⟨c,h1,h2,h3⟩:=h.sar x hx q hq
  have hal:a<ar.length:=by rw [h.la];exact Tq
  show∃c∈(ar.set a _).getD (if rep x=b then a else rep x) [],_;by_cases e2:rep x=b
  ·rw [au e2,gi,au ⟨rfl,hal⟩]
   rw [e2] at h1;obtain ⟨c',m1,m2,m3⟩:=M.right c h1;refine ⟨c',m1,by rw [m2,h2],?_⟩;rcases m3 with rfl|m3
   ·exact key h3
   ·refine (key h3).trans (Br.symm (Br.Wk (p:=(c'.To.toNat,c.To.toNat)) ?_))
    unfold Ro;rw [bT];exact uv _ (aB.2 ⟨_,m3,rfl⟩)
  ·rw [ak e2]
   by_cases e3:a=rep x
   ·rw [←e3,gi,au ⟨rfl,hal⟩]
    rw [←e3] at h1;exact ⟨c,M.left c h1,h2,key h3⟩
   ·rw [gi,ak (fun h=>e3 h.1)];exact ⟨c,h1,h2,key h3⟩
 ·obtain ⟨e1,e2,e3⟩:=h.eH C m hC hs
  have hm:=h.meq ha hb hC hs;have hal:a<ar.length:=by rw [h.la];exact Tq
  have hal':a<ty.length:=by rw [h.lt];exact Tq
  obtain ⟨a1,a2⟩:=e2 a Tq XP;obtain ⟨b1,b2⟩:=e2 b Pa hrb;rw [←hm] at b1 b2;refine ⟨fun x hx=> ?_,fun x hx hr=> ?_,fun q hq=> ?_⟩
  ·show m (if rep x=b then a else rep x)=m x
   by_cases e:rep x=b
   ·rw [au e,hm,←e,e1 x hx]
   ·rw [ak e,e1 x hx]
  ·have hr:(if rep x=b then a else rep x)=x:=hr
   by_cases e:rep x=b
   ·rw [au e] at hr;exact absurd hr.symm (hne x e)
   ·rw [ak e] at hr
    by_cases e4:a=x
    ·subst e4
     rw [gi,au ⟨rfl,hal'⟩,gi,au ⟨rfl,hal⟩];exact ⟨t3 _ a1 b1,fun c hc=>(M.sub c hc).elim (a2 c) (b2 c)⟩
    ·rw [gi,ak (fun h=>e4 h.1),gi,ak (fun h=>e4 h.1)]
     exact e2 x hx hr
  ·unfold Ro at hq
   rw [bT] at hq;rcases bC.1 hq with hq|hq
   ·exact e3 q (by rw [Aq];exact eC _ hq)
   ·obtain ⟨r',hr,rfl⟩:=aB.1 hq
    obtain ⟨u,hu,v,hv,huv,rfl⟩:=M.pair r' hr;have h1:=a2 u hu;have h2:=b2 v hv;rw [←huv] at h2;exact (hC _).Lp h1 h2
theorem Xl:cnt n (fun x=>if rep x=b then a else rep x)+1≤cnt n rep:=by
 obtain ⟨Tq,Pa,XP,hrb⟩:=h.rn ha hb;have hne:∀x,rep x=b→x≠a:=fun x e e2=>hab (by rw [←e,e2,XP])
 have e:(List.range n).filter (fun x=>(if rep x=b then a else rep x)==x)=((List.range n).filter fun x=>rep x==x).filter fun x=>x !=b:=by
  rw [C7];refine rf fun x _=> ?_
  by_cases e2:rep x=b
  ·rw [au e2]
   have h1:(a==x)=false:=gv.2 fun e=>hne x e2 e.symm
   rw [h1,e2];by_cases e3:b=x
   ·subst e3;simp
   ·rw [gv.2 e3];simp
  ·rw [ak e2]
   by_cases e3:x=b
   ·exact absurd (e3▸hrb) e2
   ·have:(x !=b)=true:=iI.2 e3
    rw [this,fG]
 unfold cnt;rw [e];exact List.length_filter_lt_length_iff_exists.2 ⟨b,cL.2 ⟨eT.2 Pa,by rw [hrb];simp⟩,by simp⟩
end
end
theorem h443 {h:bZ} {T F n:Nat} {sb:Int→Int→Prop} (H:HM h T sb) {U:Gr} {W:List (Nat×Nat)} {o:List fo} (hF:F≤1000000):∀(c k:Nat) (wt:List fo) (par ty:List Int) (ar:List (List cF)) (rep d:Nat→Nat),
  cnt n rep≤c→wt.length≤k→wt.length+cnt n rep *F≤500000000→JI T (AO F n) sb U n W wt par ty ar rep d→
  (∃par' ty' KK Fj d',yZ wt o h.Types h.de par ty ar=some (true,par',ty',KK)∧JI T (AO F n) sb U n W [] par' ty' KK Fj d')∨
  ((∃par' ty' KK,yZ wt o h.Types h.de par ty ar=some (false,par',ty',KK))∧∀C m,YV C→YM sb U n W C m→False):=by
 intro c
 induction c using Nat.strongRecOn with
 |ind c ihc=>
 intro k
 induction k with
 |zero=>
  intro wt par ty ar rep d hc hk hb J;have e:wt=[]:=nC.1 (by omega);subst e;exact .inl ⟨par,ty,ar,rep,d,TG (by rw [cond_neg (by rfl)]),J⟩
 |succ k ihk=>
  intro wt par ty ar rep d hc hk hb J;rcases List.eq_nil_or_concat wt with rfl|⟨w0,p,rfl⟩
  ·exact .inl ⟨par,ty,ar,rep,d,TG (by rw [cond_neg (by rfl)]),J⟩
  ·rw [List.concat_eq_append] at *
   have hl:(w0++[p]).length=w0.length+1:=by simp
   rw [hl] at hk hb;obtain ⟨⟨p1,p2⟩,p3,p4⟩:=J.wo p (by simp);obtain ⟨x0,hx0⟩:=je p1;obtain ⟨x1,hx1⟩:=je p3;have hx0n:x0<n:=by omega
   have hx1n:x1<n:=by omega
   have r0:p.a0.toNat=x0:=by omega
   have r1:p.a1.toNat=x1:=by omega
   obtain ⟨pa,f1,P1⟩:=c485 (TL:=h.Types) (FL:=h.de) (ty:=ty) (ar:=ar) hx0n J.pi;obtain ⟨pb,f2,P2⟩:=c485 (TL:=h.Types) (FL:=h.de) (ty:=ty) (ar:=ar) hx1n P1;have J2:=J.r6 P2;have hgN:∀{R:Type} (k:fo→Option R),gj (w0++[p]) w0.length k=k p:=fun k=>iD (by simp) k
   have step:∀(r:Bool×List Int×List Int×List (List cF)),(bif (((rep x0:Nat):Int) !=((rep x1:Nat):Int)) then (
     FQ (f486 ((rep x0:Nat):Int) ((rep x1:Nat):Int) h.Types h.de w0 pb ty ar) fun O8 KE O5 O6 acQ=>
      bif (!O8) then some (false,O5,O6,acQ) else yZ KE o h.Types h.de O5 O6 acQ)
     else yZ w0 o h.Types h.de pb ty ar)=some r→yZ (w0++[p]) o h.Types h.de par ty ar=some r:=by
    intro r hr;refine TG ?_;rw [hl,cond_pos (by rw [bB];omega),xF (by omega),DB (by omega),aR,hgN,bp ⟨by omega,by omega⟩,hx0,f1,gG,hx1,f2,gG,List.take_left' rfl];exact hr
   by_cases hne:rep x0=rep x1
   ·have J3:=J2.skip (by rw [r0,r1];exact hne)
    rcases ihk w0 pb ty ar rep d hc (by omega) (by omega) J3 with ⟨par',ty',KK,Fj,d',g1,g2⟩|⟨⟨par',ty',KK,g1⟩,g2⟩
    ·exact .inl ⟨par',ty',KK,Fj,d',step _ (by rw [cond_neg (by rw [hne];simp)];exact g1),g2⟩
    ·exact .inr ⟨⟨par',ty',KK,step _ (by rw [cond_neg (by rw [hne];simp)];exact g1)⟩,g2⟩
   ·have ha:rep p.a0.toNat=rep x0:=by rw [r0]
    have hb':rep p.a1.toNat=rep x1:=by rw [r1]
    obtain ⟨Tq,Pa,XP,hrb⟩:=J2.rn ha hb';have hal:rep x0<ar.length:=by rw [J.la];exact Tq
    have wC:rep x1<ar.length:=by rw [J.la];exact Pa
    have He:rep x0<ty.length:=by rw [J.lt];exact Tq
    have hbt:rep x1<ty.length:=by rw [J.lt];exact Pa
    have hbp:rep x1<pb.length:=by rw [P2.len];exact Pa
    have MP:(((rep x0:Nat):Int) !=((rep x1:Nat):Int))=true:=by rw [iI];omega
    have ta:=J.tr _ Tq;have tb:=J.tr _ Pa;rcases H.mt _ _ ta.1 ta.2 tb.1 tb.2 with ⟨t,m1,m2,m3,m4,m5⟩|⟨t,m1,m2,m3⟩
    ·have la:=(J.ao _ Tq).len;have lb:=(J.ao _ Pa).len
     have M:=Gb _ (ar.getD (rep x0) []) (ar.getD (rep x1) []) (aS _);have J3:=J2.merge ha hb' hne (fun l hl c hc=>(hl.ok c hc).2) (fun h1 h2=>H.to.trans h1 h2) M ((J.ao _ Tq).mg (J.ao _ Pa)) (H.to.rr m3) m3 m4 m5;have hcm:=Xl J2 ha hb' hne;have f3:f486 ((rep x0:Nat):Int) ((rep x1:Nat):Int) h.Types h.de w0 pb ty ar=some (true,w0++(mg (ar.getD (rep x0) []) (ar.getD (rep x1) [])).2,pb.set (rep x1) ((rep x0:Nat):Int),ty.set (rep x0) t,ar.set (rep x0) (mg (ar.getD (rep x0) []) (ar.getD (rep x1) [])).1):=by
      refine e486 ?_;rw [CM He,CM hbt];rw [show (bZ.mk h.Types h.de)=h from rfl,m1,aA,cond_neg (by rfl),CM hbp,CM He,rdL hal,rdL wC,aR,aR,h486 hal _ _ _ _ _ (aS _) (by simp only [eE];omega) (by omega),dU]
     have hmul:(cnt n (fun x=>if rep x=rep x1 then rep x0 else rep x)+1) *F≤cnt n rep *F:=lN F hcm;rw [zN] at hmul;have hml:=M.le;rcases ihc _ (eX (Nat.lt_of_succ_le hcm) hc) (w0++(mg (ar.getD (rep x0) []) (ar.getD (rep x1) [])).2).length _ _ _ _ _ _ (aS _) (aS _) (by rw [cQ];omega) J3 with ⟨par',ty',KK,Fj,d',g1,g2⟩|⟨⟨par',ty',KK,g1⟩,g2⟩
     ·exact .inl ⟨par',ty',KK,Fj,d',step _ (by rw [cond_pos MP,f3,su,cond_neg (by rfl)];exact g1),g2⟩
     ·exact .inr ⟨⟨par',ty',KK,step _ (by rw [cond_pos MP,f3,su,cond_neg (by rfl)];exact g1)⟩,g2⟩
    ·have f3:f486 ((rep x0:Nat):Int) ((rep x1:Nat):Int) h.Types h.de w0 pb ty ar=some (false,w0,pb,ty,ar):=by
      refine e486 ?_;rw [CM He,CM hbt];rw [show (bZ.mk h.Types h.de)=h from rfl,m1,aA,cond_pos (by rfl)]
     exact .inr ⟨⟨_,_,_,step _ (by rw [cond_pos MP,f3,su,cond_pos (by rfl)])⟩,J2.no ha hb' m3⟩
theorem cnt_le (n:Nat) (rep:Nat→Nat):cnt n rep≤n:=by
 unfold cnt;exact dB (kn _ _) (by simp)
theorem c443 {h:bZ} {T F n:Nat} {sb:Int→Int→Prop} (H:HM h T sb) {U:Gr} {W:List (Nat×Nat)} (hF:F≤1000000) {par ty:List Int} {ar:List (List cF)} {rep d:Nat→Nat} {a b:Nat} (ha:a<n) (hb:b<n) (hn:n *F≤400000000) (J:JI T (AO F n) sb U n W [] par ty ar rep d):
  (∃par' ty' KK Fj d',f443 (a:Int) (b:Int) h.Types h.de par ty ar=some (true,par',ty',KK)∧JI T (AO F n) sb U n (W++[(a,b)]) [] par' ty' KK Fj d')∨
  ((∃par' ty' KK,f443 (a:Int) (b:Int) h.Types h.de par ty ar=some (false,par',ty',KK))∧∀C m,YV C→YM sb U n (W++[(a,b)]) C m→False):=by
 have hm:cnt n rep *F≤n *F:=lN F (cnt_le n rep);rcases h443 H (o:=[]) hF (cnt n rep) 1 [⟨a,b⟩] par ty ar rep d (aS _) (by simp) (by simp only [ij];omega) (J.start ha hb) with ⟨par',ty',KK,Fj,d',g1,g2⟩|⟨⟨par',ty',KK,g1⟩,g2⟩
 ·exact .inl ⟨par',ty',KK,Fj,d',e443 g1,g2⟩
 ·exact .inr ⟨⟨par',ty',KK,e443 g1⟩,g2⟩
def lR (ty:List Int) (ar:List (List cF)) (rep:Nat→Nat):Gr:=⟨fun x=>(ar.getD x []).map fun a=>(a.aY,rep a.To.toNat),fun x=>ty.getD x 0⟩
theorem JI.uni {T F n:Nat} {sb:Int→Int→Prop} {U:Gr} {W:List (Nat×Nat)} {par ty:List Int} {ar:List (List cF)} {rep d:Nat→Nat} (J:JI T (AO F n) sb U n W [] par ty ar rep d) (hU:Bd U.sc n):Uni T F sb U n W (lR ty ar rep) rep:=by
 refine ⟨⟨fun x hx p hp=> ?_,fun x hx=> ?_,fun x hx p hp=> ?_,fun x hx=>J.tr x hx⟩,J.pi.rl,J.pi.rr,fun x hx p hp=> ?_,⟨J.sty,fun x hx p hp=> ?_,fun p hp=>(J.seq p hp).done⟩,fun C m hC hs x hx=> ?_⟩
 ·obtain ⟨a,ha,rfl⟩:=aB.1 hp
  exact J.pi.rl _ (by have:=((J.ao x hx).ok a ha).2;omega)
 ·show AU (List.map _ _)
  unfold AU;rw [iJ];exact (J.ao x hx).Bo
 ·obtain ⟨a,ha,rfl⟩:=aB.1 hp
  exact ((J.ao x hx).ok a ha).1
 ·obtain ⟨a,ha,rfl⟩:=aB.1 hp
  exact J.pi.rr _ (by have:=((J.ao x hx).ok a ha).2;omega)
 ·obtain ⟨a,ha,h1,h2⟩:=J.sar x hx p hp
  refine aB.2 ⟨a,ha,?_⟩;rw [h1,h2.done]
 ·obtain ⟨e1,e2,_⟩:=J.eH C m hC hs
  obtain ⟨e3,e4⟩:=e2 (rep x) (J.pi.rl x hx) (J.pi.rr x hx);rw [e1 x hx] at e3 e4;refine ⟨e1 x hx,e3,fun p hp=> ?_⟩;obtain ⟨a,ha,rfl⟩:=aB.1 hp;show (a.aY,m (rep a.To.toNat))∈_;rw [e1 _ (by have:=((J.ao _ (J.pi.rl x hx)).ok a ha).2;omega)];exact e4 a ha
end Go.Proofs.YthppjmoncapdfaaGreatDoor.cl.pf
namespace Go.Proofs.YthppjmoncapdfaaGreatDoor.cl.pf
open Go Go.AM
def Nl (G:Gr) (o:List Nat) (y:Nat):Node:=⟨G.ty y,(G.sc y).map fun p=>⟨p.1,(o.idxOf p.2:Nat)⟩⟩
theorem M0 {o o':List Nat} (h:o<+:o') {x:Nat} (hx:x∈o):o'.idxOf x=o.idxOf x:=by
 obtain ⟨t,rfl⟩:=h;rw [uw,au hx]
theorem ndO_pre {G:Gr} {o o':List Nat} (h:o<+:o') {y:Nat} (hy:∀p∈G.sc y,p.2∈o):Nl G o y=Nl G o' y:=by
 unfold Nl
 congr 1
 exact ia fun p hp=>by rw [M0 h (hy p hp)]
structure NO (n:Nat) (num:List Int) (o:List Nat):Prop where
 len:num.length=n
 at_:∀x,x<n→num.getD x 0=if x∈o then (o.idxOf x:Int) else-1
theorem NO.snoc {n:Nat} {num:List Int} {o:List Nat} (h:NO n num o) {y:Nat} (hy:y<n) (hno:y∉o):NO n (num.set y (o.length:Int)) (o++[y]):=by
 refine ⟨by rw [jd];exact h.len,fun x hx=> ?_⟩;rw [gi];by_cases e:y=x
 ·subst e
  rw [au ⟨rfl,by rw [h.len];exact hy⟩,au (by simp),uw,ak hno];simp
 ·rw [ak (fun h=>e h.1),h.at_ x hx]
  by_cases hx2:x∈o
  ·rw [au hx2,au (by simp [hx2]),uw,au hx2]
  ·rw [ak hx2,ak (by simp [hx2];exact fun h=>e h.symm)]
section
variable {T F n:Nat} {TL:List iy} {FL:List dH} {ty:List Int} {ar:List (List cF)} {rep d:Nat→Nat}
variable (la:ar.length=n) (lt:ty.length=n) (hao:∀x,x<n→AO F n (ar.getD x [])) (hrl:∀x,x<n→rep x<n) (hrr:∀x,x<n→rep (rep x)=rep x) (hF:F≤1000000) (hn:n≤1000000)
include hao hrl in
theorem ZB:Bd (lR ty ar rep).sc n:=fun x hx p hp=>by
 obtain ⟨a,ha,rfl⟩:=aB.1 hp;exact hrl _ (by have:=((hao x hx).ok a ha).2;omega)
def VisR (n:Nat) (G:Gr) (rep d:Nat→Nat) (ty:List Int) (ar:List (List cF)) (res:Option (Int×List Int×List Node×List Int×List Int×List (List cF))) (at_:Nat) (o o':List Nat) (out:List Node):Prop:=
 ∃num' par',res=some ((at_:Int),num',out++(o'.drop o.length).map (Nl G o'),par',ty,ar)∧NO n num' o'∧PI n par' rep d
include la lt hao hrl hF hn
theorem h487_9 {k:Nat} {o:List Nat} {y:Nat} {out:List Node} (hy:y<n) (hyo:y∉o) (hout:out.length=o.length)
  (ih:∀(x:Nat) (o:List Nat) (num:List Int) (out:List Node) (par:List Int),x<n→NO n num o→PI n par rep d→Met n o→n<k+o.length→out.length=o.length→
   VisR n (lR ty ar rep) rep d ty ar (f487 (x:Int) TL FL num out par ty ar) ((qw (lR ty ar rep).sc k (rep x) o).idxOf (rep x)) o (qw (lR ty ar rep).sc k (rep x) o) out):
  ∀(l:List cF) (i:Nat) (oj:List Nat) (num par:List Int),(ar.getD y []).drop i=l→NO n num oj→PI n par rep d→Met n oj→o++[y]<+:oj→n<k+oj.length→
   (∀z∈oj.drop (o.length+1),∀p∈(lR ty ar rep).sc z,p.2∈oj)→(∀a∈(ar.getD y []).take i,rep a.To.toNat∈oj)→
   ∃num' par',OY (o.length:Int) (ar.getD y []) ((ar.getD y []).length:Int) (i:Int) (((ar.getD y []).take i).map fun a=>⟨a.aY,(oj.idxOf (rep a.To.toNat):Nat)⟩) TL FL num ((out++[⟨ty.getD y 0,[]⟩])++(oj.drop (o.length+1)).map (Nl (lR ty ar rep) oj)) par ty ar=
    some ((o.length:Int),num',(out++[Nl (lR ty ar rep) (tI (lR ty ar rep).sc k (l.map fun a=>(a.aY,rep a.To.toNat)) oj) y])++((tI (lR ty ar rep).sc k (l.map fun a=>(a.aY,rep a.To.toNat)) oj).drop (o.length+1)).map (Nl (lR ty ar rep) (tI (lR ty ar rep).sc k (l.map fun a=>(a.aY,rep a.To.toNat)) oj)),par',ty,ar)∧
    NO n num' (tI (lR ty ar rep).sc k (l.map fun a=>(a.aY,rep a.To.toNat)) oj)∧PI n par' rep d:=by
 have hB:Bd (lR ty ar rep).sc n:=ZB hao hrl;have hal:=(hao y hy).len;intro l
 induction l with
 |nil=>
  intro i oj num par hd hN hP hM hpre hk GR hacc;refine ⟨num,par,abJ ?_,hN,hP⟩;rw [bI hd,aj,DB (by simp;omega),aR,iD (x:=⟨ty.getD y 0,[]⟩) (by rw [di (by simp;omega),gr (by omega),hout];simp)];have e1:(ar.getD y []).take i=ar.getD y []:=jm (jU hd);rw [e1];simp only [dV,tI,List.foldl_nil]
  congr 4
  rw [CR _ _ (by simp;omega),qY _ _ (by omega),hout,oZ,yg]
  congr 3
  unfold Nl lR;simp only [eO];rfl
 |cons a l ih2=>
  intro i oj num par hd hN hP hM hpre hk GR hacc;have ha:a∈ar.getD y []:=aT (b9 hd);have hok:=((hao y hy).ok a ha).2;obtain ⟨x,hx⟩:=je hok.1;have YS:x<n:=by omega
  have hxt:a.To.toNat=x:=by omega
  have hol:o.length+1≤oj.length:=by have:=hpre.length_le;simpa using this
  obtain ⟨num',par',f1,N1,P1⟩:=ih x oj num ((out++[⟨ty.getD y 0,[]⟩])++(oj.drop (o.length+1)).map (Nl (lR ty ar rep) oj)) par YS hN hP hM hk (by simp;omega);have F1:=EC (sc:=(lR ty ar rep).sc) k (rep x) oj;have hM2:=Bn hB k (rep x) oj hM (hrl x YS);obtain ⟨c1,c2⟩:=y7 hB k (rep x) oj hM (hrl x YS) hk;have Vx:=F1.length_le
  obtain ⟨num2,par2,g1,g2,g3⟩:=ih2 (i+1) (qw (lR ty ar rep).sc k (rep x) oj) num' par' (aN hd) N1 P1 hM2 (hpre.trans F1) (by omega) (fun z hz p hp=>by
    by_cases h2:z∈oj.drop (o.length+1)
    ·exact F1.subset (GR z h2 p hp)
    ·by_cases h3:z∈oj
     ·obtain ⟨t,ht⟩:=F1
      rw [←ht,yh hol] at hz;rcases bC.1 hz with hz|hz
      ·exact absurd hz h2
      ·have:=hM2.nd
       rw [←ht,jq] at this;exact absurd rfl (this.2.2 z h3 z hz)
     ·exact c2 z (yt hz) h3 p hp) (fun b hb=>by
    rw [c8] at hb;rcases bC.1 hb with hb|hb
    ·exact F1.subset (hacc b hb)
    ·rw [b9 hd] at hb
     simp at hb;subst hb
     rw [hxt];exact c1)
  refine ⟨num2,par2,abJ ?_,?_,g3⟩
  ·have hcat:(out++[⟨ty.getD y 0,[]⟩])++(oj.drop (o.length+1)).map (Nl (lR ty ar rep) oj)++((qw (lR ty ar rep).sc k (rep x) oj).drop oj.length).map (Nl (lR ty ar rep) (qw (lR ty ar rep).sc k (rep x) oj))=
     (out++[⟨ty.getD y 0,[]⟩])++((qw (lR ty ar rep).sc k (rep x) oj).drop (o.length+1)).map (Nl (lR ty ar rep) (qw (lR ty ar rep).sc k (rep x) oj)):=by
    rw [fe];refine aI (fun z=>(out++[(⟨ty.getD y 0,[]⟩:Node)])++z) ?_;have e1:(oj.drop (o.length+1)).map (Nl (lR ty ar rep) oj)=(oj.drop (o.length+1)).map (Nl (lR ty ar rep) (qw (lR ty ar rep).sc k (rep x) oj)):=
     ia fun z hz=>ndO_pre F1 (GR z hz)
    rw [e1,←bT];refine aI (List.map _) ?_;obtain ⟨t,ht⟩:=F1;rw [←ht,List.drop_left,yh hol]
   have hacc2:(((ar.getD y []).take i).map fun a=>(⟨a.aY,(oj.idxOf (rep a.To.toNat):Nat)⟩:cF))++[⟨a.aY,((qw (lR ty ar rep).sc k (rep x) oj).idxOf (rep x):Nat)⟩]=
     ((ar.getD y []).take (i+1)).map fun a=>(⟨a.aY,((qw (lR ty ar rep).sc k (rep x) oj).idxOf (rep a.To.toNat):Nat)⟩:cF):=by
    rw [c8,b9 hd,bT];rw [ia (g:=fun a=>(⟨a.aY,((qw (lR ty ar rep).sc k (rep x) oj).idxOf (rep a.To.toNat):Nat)⟩:cF)) fun b hb=>by rw [M0 F1 (hacc b hb)]];simp [hxt]
   have hlt:=eo hd;rw [bH hd,ai,aX hd,hx,f1,Io,cz _ (by rw [aW,gD];omega) (by simp) (by omega),bJ hd (by omega),hcat];have:=hacc2;rw [this,g1];simp only [aP,tI,fR,hxt]
  ·simp only [aP,tI,fR,hxt];exact g2
include hrr in
theorem h487:∀(k x:Nat) (o:List Nat) (num:List Int) (out:List Node) (par:List Int),x<n→NO n num o→PI n par rep d→Met n o→n<k+o.length→out.length=o.length→
  VisR n (lR ty ar rep) rep d ty ar (f487 (x:Int) TL FL num out par ty ar) ((qw (lR ty ar rep).sc k (rep x) o).idxOf (rep x)) o (qw (lR ty ar rep).sc k (rep x) o) out:=by
 have hB:Bd (lR ty ar rep).sc n:=ZB hao hrl;intro k
 induction k with
 |zero=>intro x o num out par hx hN hP hM hk _;have:=zk hM.nd hM.lt;omega
 |succ k ih=>
  intro x o num out par hx hN hP hM hk hout;obtain ⟨par1,f1,P1⟩:=c485 (TL:=TL) (FL:=FL) (ty:=ty) (ar:=ar) hx hP;have hy:=hrl x hx;have hnl:rep x<num.length:=by rw [hN.len];exact hy
  have htl:rep x<ty.length:=by rw [lt];exact hy
  have hal:rep x<ar.length:=by rw [la];exact hy
  have hol:=zk hM.nd hM.lt;by_cases hm:rep x∈o
  ·have ev:qw (lR ty ar rep).sc (k+1) (rep x) o=o:=by rw [qw,au hm]
   rw [ev];refine ⟨num,par1,e487 ?_,hN,P1⟩;rw [f1,gG,CM hnl,hN.at_ _ hy,au hm,cond_pos (by rw [bB];omega),CM hnl,hN.at_ _ hy,au hm];simp
  ·have ev:qw (lR ty ar rep).sc (k+1) (rep x) o=tI (lR ty ar rep).sc k ((ar.getD (rep x) []).map fun a=>(a.aY,rep a.To.toNat)) (o++[rep x]):=by rw [qw,ak hm];rfl
   have hM2:=hM.snoc hy hm;obtain ⟨num',par',g1,g2,g3⟩:=h487_9 (TL:=TL) (FL:=FL) (d:=d) la lt hao hrl hF hn hy hm hout ih (ar.getD (rep x) []) 0 (o++[rep x]) (num.set (rep x) (o.length:Int)) par1 rfl (hN.snoc hy hm) P1 hM2 (nw _) (by simp only [cQ,ij];omega)
    (fun z hz=>by rw [rC (by simp)] at hz;cases hz) (fun b hb=>by cases hb)
   rw [ev];have hpre:=AL (sc:=(lR ty ar rep).sc) k ((ar.getD (rep x) []).map fun a=>(a.aY,rep a.To.toNat)) (o++[rep x]);generalize tI (lR ty ar rep).sc k ((ar.getD (rep x) []).map fun a=>(a.aY,rep a.To.toNat)) (o++[rep x])=o' at *;have He:o'.idxOf (rep x)=o.length:=by
    rw [M0 hpre (by simp),uw,ak hm];simp
   refine ⟨num',par',e487 ?_,g2,g3⟩;rw [f1,gG,CM hnl,hN.at_ _ hy,ak hm,cond_neg (by rfl),CM hnl,CM htl,cz _ (by omega) (by simp) (by omega),rdL hal,aR,hout,He];rw [rC (by simp),dV,eU,List.take_zero,dV] at g1;have e0:((0:Nat):Int)=0:=rfl;rw [e0] at g1;rw [g1];have hfin:(out++[Nl (lR ty ar rep) o' (rep x)])++(o'.drop (o.length+1)).map (Nl (lR ty ar rep) o')=out++(o'.drop o.length).map (Nl (lR ty ar rep) o'):=by
    have e2:o'.drop o.length=rep x::o'.drop (o.length+1):=by
     obtain ⟨t,ht⟩:=hpre;rw [←ht,fe,List.drop_left,←fe,yh (by simp),rC (by simp)];rfl
    rw [e2,aP,fe];rfl
   rw [hfin]
theorem h444 {root:Nat} {f0:FSt} {o5:List Int} {res:FSt×List Int×List Int×List (List cF)} {par:List Int}:∀(k i:Nat),n=i+k→
  (Pr (f487 (root:Int) TL FL (replicate n (-1)) ([]:List Node) par ty ar) fun cC ED UP AN acO KC=>some ((FSt.mk UP),AN,acO,KC))=some res→
  OS (root:Int) (n:Int) (i:Int) f0 (replicate i (-1)++replicate k 0) o5 TL FL par ty ar=some res:=by
 intro k
 induction k with
 |zero=>
  intro i hi hr;refine abF ?_;have:i=n:=by omega
  subst this;rw [cond_neg (by rw [bA];omega),Df,eU];exact hr
 |succ k ih=>
  intro i hi hr;refine abF ?_;have hl:i<(replicate i (-1:Int)++replicate (k+1) 0).length:=by simp
  rw [cond_pos (by rw [bB];omega),CM hl,aR,bG (by omega)];have e:(replicate i (-1:Int)++replicate (k+1) 0).set i (-1)=replicate (i+1) (-1)++replicate k 0:=by
   rw [qY _ _ (by simp),kg,oZ,zM,yg,pE];simp
  rw [e];exact ih (i+1) (by omega) hr
include hrr in
theorem c444 {root:Nat} {par:List Int} (hr:root<n) (P:PI n par rep d):∃par',f444 (root:Int) TL FL par ty ar=some (mI (lR ty ar rep) n (rep root),par',ty,ar):=by
 have hN:NO n (replicate n (-1)) []:=⟨by simp,fun x hx=>by
  rw [ak (by simp),aQ,jD,au hx];rfl⟩
 obtain ⟨num',par',f1,_,_⟩:=h487 (TL:=TL) (FL:=FL) (d:=d) la lt hao hrl hrr hF hn (n+1) root [] (replicate n (-1)) [] par hr hN P Met.nil (by simp) rfl;refine ⟨par',e444 ?_⟩;rw [bp ⟨by omega,by omega,by rw [P.len];omega,by rw [P.len];omega⟩,P.len,aR,kg];have:=h444 (TL:=TL) (FL:=FL) (root:=root) (f0:=⟨[]⟩) (o5:=[]) (par:=par) la lt hao hrl hF hn n 0 (by omega) (by rw [f1,Io]);rw [Df,dU] at this;exact this
end
end Go.Proofs.YthppjmoncapdfaaGreatDoor.cl.pf
