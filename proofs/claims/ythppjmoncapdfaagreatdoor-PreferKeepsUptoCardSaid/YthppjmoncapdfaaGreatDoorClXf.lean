/- Unification by classes (the program's). -/
import Derived.Test.YthppjmoncapdfaaGreatDoorClXc
import Derived.Test.YthppjmoncapdfaaGreatDoorClSh
set_option linter.all false
open Int (toNat)
open List (length replicate)
namespace Go.Proofs.YthppjmoncapdfaaGreatDoor.cl.pf
open Go Go.AM
section
variable {R:Type}
def qH {l:List Int} {i:Nat} (h:i<l.length) (k:Int->Option R):check (0<=(i:Int)/\toNat (i:Int)<l.length) (ek l (toNat (i:Int)) k)=k (l.getD i 0):=by rw[bh ⟨af,by simpa using h⟩,aR];exact VP h k
def Y3 {q:Type} {l:List (List q)} {i:Nat} (h:i<l.length) (k:List q->Option R):check (0<=(i:Int)/\toNat (i:Int)<l.length) (ek l (toNat (i:Int)) k)=k (l.getD i []):=by rw[bh ⟨af,by simpa using h⟩,aR];exact VP h k
theorem uP {l:Nat} {i:Nat} (h:i<l) (a:Option R):check (0<=(i:Int)/\toNat (i:Int)<l) a=a:=bh ⟨af,by simpa using h⟩ a
def gA {l q w z:Type} (a:l) (b:q) (c:w) (d:z) (k:l->q->w->z->Option R):tM (some (a,b,c,d)) k=k a b c d:=rfl
def r7 {l q w z B:Type} (a:l) (b:q) (c:w) (d:z) (e:B) (k:l->q->w->z->B->Option R):FG (some (a,b,c,d,e)) k=k a b c d e:=rfl
def HP {l q w z B D:Type} (a:l) (b:q) (c:w) (d:z) (e:B) (g:D) (k:l->q->w->z->B->D->Option R):PL (some (a,b,c,d,e,g)) k=k a b c d e g:=rfl
end
def eG {q:Type} (l:List q) (i j:Nat) (v d:q):(l.set i v).getD j d=if i=j/\j<l.length then v else l.getD j d:=by
 rw[aZ,aZ,qC];by_cases e:i=j
 .subst e;by_cases h:i<l.length
  .simp[h]
  .simp[h]
 .simp[e]
structure PI (n:Nat) (par:List Int) (rep d:Nat->Nat):Prop where
 len:par.length=n
 up:∀x,x<n->∃y,y<n/\par.getD x 0=(y:Int)/\rep y=rep x/\(y=x\/d y<d x)
 fix:∀x,x<n->(par.getD x 0=(x:Int)↔rep x=x)
 rl:∀x,x<n->rep x<n
 rr:∀x,x<n->rep (rep x)=rep x
section
variable {n:Nat} {rep d:Nat->Nat} {TL:List gL} {FL:List c8} {ty:List Int} {ar:List (List bY)}
def h485:∀(k x:Nat) (par:List Int),d x<=k->x<n->PI n par rep d->∃q,Kk (x:Int) TL FL par ty ar=some (((rep x:Nat):Int),q,ty,ar)/\PI n q rep d:=by intro k;induction k with
 |zero=>
  intro x par hk D P;obtain⟨y,O,B,K,h3⟩:=P.up x D;have l:x<par.length:=by rw[P.len];exact D
  have e:y=x:=af;subst e;refine⟨par,Uh ?_,P⟩;rw[qH l,B,cond_neg ah,(P.fix y D).1 B]
 |succ k ih=>
  intro x par hk D P;obtain⟨y,O,B,K,h3⟩:=P.up x D;have l:x<par.length:=by rw[P.len];exact D
  have S:y<par.length:=by rw[P.len];exact O
  by_cases e:y=x
  .subst e;refine⟨par,Uh ?_,P⟩;rw[qH l,B,cond_neg ah,(P.fix y D).1 B]
  .have h3:d y<d x:=af;obtain⟨z,hz,g1,V,g3⟩:=P.up y O;have H:d z<d x:=by rcases g3 with rfl|g3<;>omega
   have P':PI n (par.set x z) rep d:=by
    refine⟨by rw[fM];exact P.len,λw N=> ?_,λw N=> ?_,P.rl,P.rr⟩
    .by_cases G:x=w
     .subst G;exact⟨z,hz,by rw[eG,az ⟨rfl,l⟩],by rw[V,K], .inr H⟩
     .obtain⟨v,L⟩:=P.up w N;exact⟨v,L.1,by rw[eG,au (λh=>G h.1)];exact L.2.1,L.2.2⟩
    .by_cases G:x=w
     .subst G;rw[eG,az ⟨rfl,l⟩];have hxz:z≠x:=λe=>by rw[e] at H;omega
      have:=P.fix x D;rw[B] at this;constructor
      .intro h;omega
      .intro h;have:=this.2 h;omega
     .rw[eG,au (λh=>G h.1)];exact P.fix w N
   obtain⟨q,r1,r2⟩:=ih z (par.set x z) af hz P';refine⟨q,Uh ?_,r2⟩;rw[qH l,B,cond_pos aF,qH l,B,qH S,g1,qH l,aR];have hs:x<(par.set x (z:Int)).length:=by rw[fM];exact l
   have h0:=qH hs (λI=>Kk I TL FL (par.set x (z:Int)) ty ar);rw[aR] at h0;rw[h0,eG,az ⟨rfl,l⟩,r1,V,K]
def c485 {x:Nat} {par:List Int} (z:x<n) (P:PI n par rep d):∃l,f485 (x:Int) TL FL par ty ar=some (((rep x:Nat):Int),l,ty,ar)/\PI n l rep d:=by obtain⟨l,q,w⟩:=h485 (TL:=TL) (FL:=FL) (ty:=ty) (ar:=ar) (d x) x par (aU _) z P;exact⟨l,e485 q,w⟩
end
def mg:List bY->List bY->List bY×List dr
 |[],l=>(l,[])
 |x::xs,[]=>(x::xs,[])
 |x::xs,y::l=>
  if x.aT<y.aT then(x::(mg xs (y::l)).1,(mg xs (y::l)).2)
  else if y.aT<x.aT then(y::(mg (x::xs) l).1,(mg (x::xs) l).2)
  else(x::(mg xs l).1,⟨x.To,y.To⟩::(mg xs l).2)
 termination_by x y=>x.length+y.length
def EZ (l:List bY):mg [] l=(l,[]):=by rw[mg]
def G1 (xs:List bY):mg xs []=(xs,[]):=by cases xs<;>rw[mg]
def acE {x y:bY} (xs l:List bY) (h:x.aT<y.aT):mg (x::xs) (y::l)=(x::(mg xs (y::l)).1,(mg xs (y::l)).2):=by rw[mg,az h]
def acD {x y:bY} (xs l:List bY) (h:y.aT<x.aT):mg (x::xs) (y::l)=(y::(mg (x::xs) l).1,(mg (x::xs) l).2):=by rw[mg,au af,az h]
def acC {x y:bY} (xs l:List bY) (h:x.aT=y.aT):mg (x::xs) (y::l)=(x::(mg xs l).1,⟨x.To,y.To⟩::(mg xs l).2):=by rw[mg,au af,au af]
structure MG (x y:List bY) (r:List bY×List dr):Prop where
 sub:∀a∈r.1,a∈x\/a∈y
 left:∀a∈x,a∈r.1
 right:∀a∈y,∃b∈r.1,b.aT=a.aT/\(b=a\/⟨b.To,a.To⟩∈r.2)
 pair:∀p∈r.2,∃a∈x,∃b∈y,a.aT=b.aT/\p=⟨a.To,b.To⟩
 le:r.2.length<=y.length
def zg (l:List bY):Prop:=l.Pairwise λp q=>p.aT<q.aT
def F1:∀(k:Nat) (x y:List bY),x.length+y.length<=k->MG x y (mg x y)
 |_,[],y,_=>by rw[EZ];exact⟨λa h=> .inr h,λa h=>by(cases h),λa h=>⟨a,h,rfl, .inl rfl⟩,λp h=>by(cases h),cZ _⟩
 |_,x::xs,[],_=>by rw[G1];exact⟨λa h=> .inl h,λa h=>h,λa h=>by(cases h),λp h=>by(cases h),cZ _⟩
 |0,x::xs,y::w,h=>by simp at h
 |k+1,x::xs,y::w,h=>by
  simp only[bg] at h;rcases x7 x.aT y.aT with D|q|B
  .rw[acE _ _ D];have M:=F1 k xs (y::w) (by simp only[bg];omega);refine⟨λa h=> ?_,λa h=> ?_,λa h=> ?_,λp h=> ?_,M.le⟩
   .rcases aG.1 h with rfl|h
    .exact .inl ah
    .rcases M.sub a h with h|h
     .exact .inl (by simp[h])
     .exact .inr h
   .rcases aG.1 h with rfl|h
    .simp
    .exact eo _ (M.left a h)
   .obtain⟨b,hb,l⟩:=M.right a h;exact⟨b,eo _ hb,l⟩
   .obtain⟨a,ha,b,hb,l⟩:=M.pair p h;exact⟨a,eo _ ha,b,hb,l⟩
  .rw[acC _ _ q];have M:=F1 k xs w af;refine⟨λa h=> ?_,λa h=> ?_,λa h=> ?_,λp h=> ?_,by simp only[bg];have:=M.le;omega⟩
   .rcases aG.1 h with rfl|h
    .exact .inl ah
    .rcases M.sub a h with h|h
     .exact .inl (by simp[h])
     .exact .inr (by simp[h])
   .rcases aG.1 h with rfl|h
    .simp
    .exact eo _ (M.left a h)
   .rcases aG.1 h with rfl|h
    .exact⟨x,by simp,q, .inr ah⟩
    .obtain⟨b,hb,l,z⟩:=M.right a h;exact⟨b,eo _ hb,l,z.imp id (eo _)⟩
   .rcases aG.1 h with rfl|h
    .exact⟨x,by simp,y,by simp,q,rfl⟩
    .obtain⟨a,ha,b,hb,l⟩:=M.pair p h;exact⟨a,eo _ ha,b,eo _ hb,l⟩
  .rw[acD _ _ B];have M:=F1 k (x::xs) w (by simp only[bg];omega);refine⟨λa h=> ?_,λa h=> ?_,λa h=> ?_,λp h=> ?_,by simp only[bg];have:=M.le;omega⟩
   .rcases aG.1 h with rfl|h
    .exact .inr ah
    .rcases M.sub a h with h|h
     .exact .inl h
     .exact .inr (by simp[h])
   .exact eo _ (M.left a h)
   .rcases aG.1 h with rfl|h
    .exact⟨a,by simp,rfl, .inl rfl⟩
    .obtain⟨b,hb,l,z⟩:=M.right a h;exact⟨b,eo _ hb,l,z⟩
   .obtain⟨a,ha,b,hb,l⟩:=M.pair p h;exact⟨a,ha,b,eo _ hb,l⟩
def Nj:∀(k:Nat) (x y:List bY),x.length+y.length<=k->zg x->zg y->zg (mg x y).1
 |_,[],y,_,_,h=>by rw[EZ];exact h
 |_,x::xs,[],_,h,_=>by rw[G1];exact h
 |0,x::xs,y::w,h,_,_=>by simp at h
 |k+1,x::xs,y::w,h,G,H=>by
  simp only[bg] at h;have l:=dA.1 G;have q:=dA.1 H;rcases x7 x.aT y.aT with B|D|z
  .rw[acE _ _ B];refine dA.2 ⟨λa ha=> ?_,Nj k xs (y::w) (by simp only[bg];omega) l.2 H⟩;rcases(F1 k xs (y::w) (by simp only[bg];omega)).sub a ha with h|h
   .exact l.1 a h
   .rcases aG.1 h with rfl|h
    .exact B
    .have:=q.1 a h;omega
  .rw[acC _ _ D];refine dA.2 ⟨λa ha=> ?_,Nj k xs w af l.2 q.2⟩;rcases(F1 k xs w af).sub a ha with h|h
   .exact l.1 a h
   .have:=q.1 a h;omega
  .rw[acD _ _ z];refine dA.2 ⟨λa ha=> ?_,Nj k (x::xs) w (by simp only[bg];omega) G q.2⟩;rcases(F1 k (x::xs) w (by simp only[bg];omega)).sub a ha with h|h
   .rcases aG.1 h with rfl|h
    .exact z
    .have:=l.1 a h;omega
   .exact q.1 a h
def Bj {q:Type} (x:q) (l:List q):((x::l).take (length (x::l))).drop (toNat (1:Int))=l:=by rw[fC];rfl
def AX {q R:Type} (x:q) (l:List q) (a:Option R):check (0<=(1:Int)/\(1:Int)<=(length (x::l):Nat)) a=a:=bh ⟨af,by simp only[bg];omega⟩ a
def iC {q R:Type} (x:q) (l:List q) (k:q->Option R):aW (x::l) 0 k=k x:=zX af rfl k
def h486 {a:Nat} {TL:List gL} {FL:List c8} {par ty:List Int} {ar:List (List bY)} (ha:a<ar.length):∀(k:Nat) (x y q:List bY) (wt:List dr),x.length+y.length<=k->x.length+y.length+q.length<=1000000000->wt.length+y.length<=1000000000->
  nj (a:Int) x y q TL FL wt par ty ar=some (true,wt++(mg x y).2,par,ty,ar.set a (q++(mg x y).1)):=by
 intro k;induction k with
 |zero=>intro x y q wt K _ _;have N:x=[]:=oK.1 af;have O:y=[]:=oK.1 af;subst N;subst O;refine aco ?_;rw[cond_neg (by rfl),cond_neg (by rfl),Y3 ha,EZ,e7,e7,aR]
 |succ k H=>
  intro x y q wt K w B;refine aco ?_;have P:∀{I:Type} (x:I) (l:List I),decide ((length (x::l):Int)>0)=true:=λx l=>by rw[bH,bg];omega
  have Z:∀{I:Type} (x:I) (l:List I),((length (x::l):Int)==0)=false:=λx l=>by rw[iN,bg];omega
  cases x with
  |nil=>cases y with
   |nil=>rw[cond_neg (by rfl),cond_neg (by rfl),Y3 ha,EZ,e7,e7,aR]
   |cons y z=>
    simp only[bg,er] at K w B
    rw[cond_neg (by rfl),cond_pos (P y z),cond_neg (Z y z),cond_neg (by rfl),cond_pos (by rfl),iC,bU _ af ah af,AX,Bj,
     H [] z (q++[y]) wt aF aF af,EZ,EZ]
    simp
  |cons x xs=>cases y with
   |nil=>
    simp only[bg,er] at K w B
    rw[cond_pos (P x xs),cond_pos (by rfl),iC,bU _ af ah af,AX,Bj,
     H xs [] (q++[x]) wt aF aF aF,G1,G1]
    simp
   |cons y z=>
    simp only[bg] at K w B;rw[cond_pos (P x xs),cond_neg (Z y z),cond_pos (P x xs),iC,iC];rcases x7 x.aT y.aT with G|L|D
    .rw[cond_pos (by rw[bH];exact G),iC,bU _ af ah af,AX,Bj,
      H xs (y::z) (q++[x]) wt aF aF aF,acE _ _ G]
     simp
    .rw[cond_neg (by rw[bP];omega),cond_neg (Z x xs),iC,iC,cond_neg (by rw[bP];omega),iC,iC,bU _ af ah af,iC,bU _ af ah af,AX,AX,Bj,Bj,
      H xs z (q++[x]) _ af aF aF,acC _ _ L]
     simp
    .rw[cond_neg (by rw[bP];omega),cond_neg (Z x xs),iC,iC,cond_pos (by rw[bH];exact D),iC,bU _ af ah af,AX,Bj,
      H (x::xs) z (q++[y]) wt aF aF af,acD _ _ D]
     simp
end Go.Proofs.YthppjmoncapdfaaGreatDoor.cl.pf
namespace Go.Proofs.YthppjmoncapdfaaGreatDoor.cl.pf
open Go Go.AM
structure HM (h:bR) (T:Nat) (sb:Int->Int->Prop):Prop where
 to:TO T sb
 mt:∀a b:Int,0<=a->a<(T:Int)->0<=b->b<(T:Int)->
  (∃t,f335 h a b=some (t,true)/\f336 h a b=some (t,true)/\sb a t/\sb b t/\∀c,sb a c->sb b c->sb t c)\/
  (∃t,f335 h a b=some (t,false)/\f336 h a b=some (t,false)/\∀c,sb a c->sb b c->False)
def LL (l:List dr):List (Nat×Nat):=l.map λp=>(p.a0.toNat,p.a1.toNat)
def xC (rep:Nat->Nat) (wt:List (Nat×Nat)) (x y:Nat):Prop:=∀E:Nat->Nat->Prop,Equivalence E->(∀a b,rep a=rep b->E a b)->(∀p∈wt,E p.1 p.2)->E x y
def xC.imp {rep l:Nat->Nat} {wt q:List (Nat×Nat)} {x y:Nat} (D:∀a b,rep a=rep b->xC l q a b) (G:∀p∈wt,xC l q p.1 p.2) (h:xC rep wt x y):xC l q x y:=
 λE w z B=>h E w (λa b hab=>D a b hab E w z B) λp H=>G p H E w z B
def xC.wC {rep:Nat->Nat} {wt:List (Nat×Nat)} {x y:Nat} (h:rep x=rep y):xC rep wt x y:=λE _ l _=>l x y h
theorem xC.Jd {rep:Nat->Nat} {wt:List (Nat×Nat)} {p:Nat×Nat} (h:p∈wt):xC rep wt p.1 p.2:=λE _ _ l=>l p h
def xC.symm {rep:Nat->Nat} {wt:List (Nat×Nat)} {x y:Nat} (h:xC rep wt x y):xC rep wt y x:=λE l q w=>l.symm (h E l q w)
theorem xC.trans {rep:Nat->Nat} {wt:List (Nat×Nat)} {x y z:Nat} (h:xC rep wt x y) (B:xC rep wt y z):xC rep wt x z:=λE l q w=>l.trans (h E l q w) (B E l q w)
def xC.done {rep:Nat->Nat} {x y:Nat} (h:xC rep [] x y):rep x=rep y:=
 h (λa b=>rep a=rep b) ⟨λ_=>rfl,λh=>h.symm,λh l=>h.trans l⟩ (λ_ _ h=>h) (λp q=>by cases q)
structure AO (F n:Nat) (l:List bY):Prop where
 yh:zg l
 ok:∀a∈l,(0<=a.aT/\a.aT<(F:Int))/\0<=a.To/\a.To<(n:Int)
def AO.len {F n:Nat} {l:List bY} (h:AO F n l):l.length<=F:=by
 have:=vN (N:=F) (o:=l.map λa=>a.aT.toNat) (by
  have q:=h.yh;have w:=h.ok;clear h;induction l with
  |nil=>simp
  |cons x l G=>
   have z:=dA.1 q;rw[aS,fA];refine⟨λH=> ?_,G z.2 λa ha=>w a (by simp[ha])⟩
   grind) (λx B=>by
  obtain⟨y,D,rfl⟩:=aD.1 B;have:=(h.ok y D).1
  omega)
 simp_all
def AO.mg {F n:Nat} {x y:List bY} (l:AO F n x) (q:AO F n y):AO F n (mg x y).1:=
 ⟨Nj _ x y (aU _) l.yh q.yh,λa ha=>((F1 _ x y (aU _)).sub a ha).elim (l.ok a) (q.ok a)⟩
structure JI (T:Nat) (Q:List bY->Prop) (sb:Int->Int->Prop) (U:Gr) (n:Nat) (W:List (Nat×Nat)) (wt:List dr) (par ty:List Int) (ar:List (List bY)) (rep d:Nat->Nat):Prop where
 pi:PI n par rep d
 lt:ty.length=n
 la:ar.length=n
 tr:∀x,x<n->0<=ty.getD x 0/\ty.getD x 0<(T:Int)
 ao:∀x,x<n->Q (ar.getD x [])
 wo:∀p∈wt,(0<=p.a0/\p.a0<(n:Int))/\0<=p.a1/\p.a1<(n:Int)
 sty:∀x,x<n->sb (U.ty x) (ty.getD (rep x) 0)
 Y4:∀x,x<n->∀p∈U.sc x,∃a∈ar.getD (rep x) [],a.aT=p.1/\xC rep (LL wt) p.2 a.To.toNat
 seq:∀p∈W,xC rep (LL wt) p.1 p.2
 dK:∀C m,Y6 C->SH sb U n W C m->(∀x,x<n->m (rep x)=m x)/\(∀x,x<n->rep x=x->sb (ty.getD x 0) (C.ty (m x))/\∀a∈ar.getD x [],(a.aT,m a.To.toNat)∈C.sc (m x))/\∀p∈LL wt,m p.1=m p.2
def cnt (n:Nat) (rep:Nat->Nat):Nat:=((List.range n).filter λx=>rep x==x).length
section
variable {T:Nat} {Q:List bY->Prop} {sb:Int->Int->Prop} {U:Gr} {n:Nat} {W:List (Nat×Nat)} {wt:List dr} {par ty:List Int} {ar:List (List bY)} {rep d:Nat->Nat}
theorem rC (p:dr):LL (wt++[p])=LL wt++[(p.a0.toNat,p.a1.toNat)]:=by simp[LL]
def JI.rQ (h:JI T Q sb U n W wt par ty ar rep d) {l:List Int} {q:Nat->Nat} (w:PI n l rep q):JI T Q sb U n W wt l ty ar rep q:={ h with pi:=w }
def JI.skip {p:dr} (h:JI T Q sb U n W (wt++[p]) par ty ar rep d) (e:rep p.a0.toNat=rep p.a1.toNat):JI T Q sb U n W wt par ty ar rep d:=by
 have key:∀{x y},xC _ (LL (wt++[p])) x y->xC _ _ x y:=λ{x y}=>xC.imp (λa b hab=> .wC hab) λq l=>by
  rw[rC] at l;rcases bw.1 l with l|l
  .exact .Jd l
  .rw[bX] at l;subst l;exact .wC e
 refine { h with wo:=λq l=>h.wo q (by simp[l]),Y4:=λx H q l=> ?_,seq:=λq l=>key (h.seq q l),dK:=λC m D G=> ?_ }
 .obtain⟨a,w,z,B⟩:=h.Y4 x H q l;grind
 .obtain⟨w,z,B⟩:=h.dK C m D G;exact⟨w,z,λq l=>B q (by rw[rC];grind)⟩
def JI.mem {wt':List dr} (h:JI T Q sb U n W wt par ty ar rep d) (z:∀p,p∈wt↔p∈wt'):JI T Q sb U n W wt' par ty ar rep d:=by
 have key:∀{x y},xC rep (LL _) x y->xC _ (LL _) x y:=λ{x y}=>xC.imp (λa b hab=> .wC hab) λq l=>by obtain⟨p,w,rfl⟩:=aD.1 l;exact .Jd (aD.2 ⟨p,(z p).1 w,rfl⟩)
 refine { h with wo:=λq l=>h.wo q ((z q).2 l),Y4:=λx K q l=> ?_,seq:=λq l=>key (h.seq q l),dK:=λC m H I=> ?_ }
 .obtain⟨a,B,D,G⟩:=h.Y4 x K q l;grind
 .obtain⟨B,D,G⟩:=h.dK C m H I;refine⟨B,D,λq l=> ?_⟩;obtain⟨p,w,rfl⟩:=aD.1 l;exact G _ (aD.2 ⟨p,(z p).2 w,rfl⟩)
def JI.swap {p:dr} (h:JI T Q sb U n W (wt++[p]) par ty ar rep d):JI T Q sb U n W (wt++[⟨p.a1,p.a0⟩]) par ty ar rep d:=by
 have key:∀{x y},xC rep (LL (wt++[p])) x y->xC _ (LL (wt++[⟨p.a1,p.a0⟩])) x y:=λ{x y}=>xC.imp (λa b hab=> .wC hab) λq l=>by
  rw[rC] at l⊢;rcases bw.1 l with l|l
  .exact .Jd (by simp[l])
  .rw[bX] at l;subst l;exact xC.symm (xC.Jd (p:=(p.a1.toNat,p.a0.toNat)) ah)
 refine { h with wo:=λq l=> ?_,Y4:=λx H q l=> ?_,seq:=λq l=>key (h.seq q l),dK:=λC m D G=> ?_ }
 .rcases bw.1 l with l|l
  .exact h.wo q (by simp[l])
  .have:=h.wo p ah;simp_all
 .obtain⟨a,w,z,B⟩:=h.Y4 x H q l;grind
 .obtain⟨w,z,B⟩:=h.dK C m D G;refine⟨w,z,λq l=> ?_⟩;rw[rC] at l;rcases bw.1 l with l|l
  .grind[rC]
  .rw[bX] at l;subst l;exact(B (p.a0.toNat,p.a1.toNat) (by rw[rC];simp)).symm
def JI.start {a b:Nat} (h:JI T Q sb U n W [] par ty ar rep d) (ha:a<n) (hb:b<n):JI T Q sb U n (W++[(a,b)]) [⟨a,b⟩] par ty ar rep d:=by
 have key:∀{x y},xC rep (LL []) x y->xC _ (LL [⟨(a),b⟩]) x y:=λ{x y}=>xC.imp (λa b hab=> .wC hab) λq l=>by cases l
 refine { h with wo:=λq l=> ?_,Y4:=λx I q l=> ?_,seq:=λq l=> ?_,dK:=λC m G w=> ?_ }
 .simp_all
 .obtain⟨c,z,B,D⟩:=h.Y4 x I q l;grind
 .rcases bw.1 l with l|l
  .exact key (h.seq q l)
  grind[xC.Jd,LL]
 .obtain⟨z,B,D⟩:=h.dK C m G { w with eq:=λp H=>w.eq p (by simp[H]) };refine⟨z,B,λq l=> ?_⟩;simp[LL,aS,dR,bX] at l;subst l;exact w.eq _ ah
section
variable {p:dr} (h:JI T Q sb U n W (wt++[p]) par ty ar rep d) {a b:Nat} (ha:rep p.a0.toNat=a) (hb:rep p.a1.toNat=b) (hab:a≠b)
include h
theorem JI.pn:p.a0.toNat<n/\p.a1.toNat<n:=by have:=h.wo p ah;omega
include ha hb
theorem JI.rn:a<n/\b<n/\rep a=a/\rep b=b:=by obtain⟨l,q⟩:=h.pn;have w:=h.pi.rl _ l;have z:=h.pi.rl _ q;have B:=h.pi.rr _ l;have D:=h.pi.rr _ q;simp_all
theorem JI.meq {C:Gr} {m:Nat->Nat} (q:Y6 C) (w:SH sb U n W C m):m a=m b:=by obtain⟨z,B⟩:=h.pn;obtain⟨e1,_,l⟩:=h.dK C m q w;have:=l (p.a0.toNat,p.a1.toNat) (by rw[rC];simp);grind
theorem JI.no (D:∀c,sb (ty.getD a 0) c->sb (ty.getD b 0) c->False) (C:Gr) (m:Nat->Nat) (l:Y6 C) (q:SH sb U n W C m):False:=by obtain⟨z,G,B,H⟩:=h.rn ha hb;obtain⟨_,w,_⟩:=h.dK C m l q;refine D _ (w a z B).1 ?_;rw[h.meq ha hb l q];simp_all
include hab
theorem JI.merge (hQ:∀l,Q l->∀c∈l,0<=c.To/\c.To<(n:Int)) (hT:∀{a b c},sb a b->sb b c->sb a c) {r:List bY×List dr} (M:MG (ar.getD a []) (ar.getD b []) r) (w:Q r.1) {t:Int} (t0:0<=t/\t<(T:Int)) (t1:sb (ty.getD a 0) t) (t2:sb (ty.getD b 0) t) (t3:∀c,sb (ty.getD a 0) c->sb (ty.getD b 0) c->sb t c):
  JI T Q sb U n W (wt++r.2) (par.set b a) (ty.set a t) (ar.set a r.1) (λx=>if rep x=b then a else rep x) (λx=>if rep x=b then d x+d a+1 else d x):=by
 obtain⟨D,O,H,K⟩:=h.rn ha hb;have key:∀{x y},xC rep (LL (wt++[p])) x y->xC (λx=>if rep x=b then a else rep x) (LL (wt++r.2)) x y:=λ{x y}=>xC.imp (λu v P=> .wC (by show(if _ then _ else _)=if _ then _ else _;rw[P])) λq w=>by
  rw[rC] at w;rcases bw.1 w with w|w
  .exact .Jd (by unfold LL at *;rw[bM];simp[w])
  .rw[bX] at w;subst w;refine .wC ?_;show(if _ then _ else _)=if _ then _ else _
   rw[ha,hb,au hab,az rfl]
 have QG:b<par.length:=by rw[h.pi.len];exact O
 have hne:∀x,rep x=b->x≠a:=λx e z=>hab (by rw[<-e,z,H])
 refine⟨⟨by rw[fM];exact h.pi.len,λx B=> ?_,λx B=> ?_,λx B=> ?_,λx B=> ?_⟩,by rw[fM];exact h.lt,by rw[fM];exact h.la,λx B=> ?_,λx B=> ?_,λq w=> ?_,λx B=> ?_,λx B q w=> ?_,λq w=>key (h.seq q w),λC m hC hs=> ?_⟩
 .by_cases e:b=x
  .subst e;refine⟨a,D,by rw[eG,az ⟨rfl,QG⟩],?_, .inr ?_⟩
   .show(if _ then _ else _)=if _ then _ else _
    rw[H,K,au hab,az rfl]
   .show(if _ then _ else _)<if _ then _ else _
    rw[H,K,au hab,az rfl];omega
  .obtain⟨y,hy,g1,g2,g3⟩:=h.pi.up x B;refine⟨y,hy,by rw[eG,au (λh=>e h.1)];exact g1,?_,?_⟩
   .show(if _ then _ else _)=if _ then _ else _
    rw[g2]
   .refine g3.imp id λg3=> ?_
    show(if _ then _ else _)<if _ then _ else _
    rw[g2];by_cases z:rep x=b
    .rw[az z,az z];omega
    .rw[au z,au z];exact g3
 .show _↔(if rep x=b then a else rep x)=x;by_cases e:b=x
  .subst e;rw[eG,az ⟨rfl,QG⟩,az K];omega
  .rw[eG,au (λh=>e h.1),h.pi.fix x B];by_cases z:rep x=b
   .rw[az z];have:=hne x z;omega
   .rw[au z]
 .show(if _ then _ else _)<n;split
  .exact D
  .exact h.pi.rl x B
 .show(if rep (if rep x=b then a else rep x)=b then a else rep (if rep x=b then a else rep x))=if rep x=b then a else rep x
  by_cases z:rep x=b
  .rw[az z,H,au hab]
  .rw[au z,h.pi.rr x B,au z]
 .rw[eG];split
  .exact t0
  .exact h.tr x B
 .rw[eG];split
  .exact w
  .exact h.ao x B
 .rcases bw.1 w with w|w
  .exact h.wo q (by simp[w])
  .obtain⟨u,hu,v,hv,_,rfl⟩:=M.pair q w;exact⟨hQ _ (h.ao a D) u hu,hQ _ (h.ao b O) v hv⟩
 .have V:=h.sty x B;show sb _ ((ty.set a t).getD (if rep x=b then a else rep x) 0);have G:a<ty.length:=by rw[h.lt];exact D
  by_cases z:rep x=b
  .rw[az z,eG,az ⟨rfl,G⟩];rw[z] at V;exact hT V t2
  .rw[au z];by_cases I:a=rep x
   .rw[<-I,eG,az ⟨rfl,G⟩];rw[<-I] at V;exact hT V t1
   .rw[eG,au (λh=>I h.1)];exact V
 .obtain⟨c,N,S,h3⟩:=h.Y4 x B q w;have G:a<ar.length:=by rw[h.la];exact D
  show∃c∈(ar.set a _).getD (if rep x=b then a else rep x) [],_;by_cases z:rep x=b
  .rw[az z,eG,az ⟨rfl,G⟩];rw[z] at N;obtain⟨c',m1,m2,m3⟩:=M.right c N;refine⟨c',m1,by rw[m2,S],?_⟩;rcases m3 with rfl|m3
   .exact key h3
   .refine(key h3).trans (xC.symm (xC.Jd (p:=(c'.To.toNat,c.To.toNat)) ?_));unfold LL;rw[bM];exact fN _ (aD.2 ⟨_,m3,rfl⟩)
  .rw[au z];by_cases I:a=rep x
   .rw[<-I,eG,az ⟨rfl,G⟩];rw[<-I] at N;exact⟨c,M.left c N,S,key h3⟩
   .rw[eG,au (λh=>I h.1)];exact⟨c,N,S,key h3⟩
 .obtain⟨e1,z,I⟩:=h.dK C m hC hs;have hm:=h.meq ha hb hC hs;have G:a<ar.length:=by rw[h.la];exact D
  have hal':a<ty.length:=by rw[h.lt];exact D
  obtain⟨a1,a2⟩:=z a D H;obtain⟨b1,b2⟩:=z b O K;rw[<-hm] at b1 b2;refine⟨λx B=> ?_,λx B L=> ?_,λq w=> ?_⟩
  .show m (if rep x=b then a else rep x)=m x;by_cases e:rep x=b
   .rw[az e,hm,<-e,e1 x B]
   .rw[au e,e1 x B]
  .have L:(if rep x=b then a else rep x)=x:=L;by_cases e:rep x=b
   .rw[az e] at L;exact absurd L.symm (hne x e)
   .rw[au e] at L;by_cases e4:a=x
    .subst e4;rw[eG,az ⟨rfl,hal'⟩,eG,az ⟨rfl,G⟩];exact⟨t3 _ a1 b1,λc hc=>(M.sub c hc).elim (a2 c) (b2 c)⟩
    .rw[eG,au (λh=>e4 h.1),eG,au (λh=>e4 h.1)];exact z x B L
  .unfold LL at w;rw[bM] at w;rcases bw.1 w with w|w
   .exact I q (by rw[rC];exact dV _ w)
   .obtain⟨r',L,rfl⟩:=aD.1 w;obtain⟨u,hu,v,hv,P,rfl⟩:=M.pair r' L;have N:=a2 u hu;have S:=b2 v hv;rw[<-P] at S;exact(hC _).KC N S
theorem Lc:cnt n (λx=>if rep x=b then a else rep x)+1<=cnt n rep:=by
 obtain⟨q,l,w,z⟩:=h.rn ha hb;have e:(List.range n).filter (λx=>(if rep x=b then a else rep x)==x)=((List.range n).filter λx=>rep x==x).filter λx=>x !=b:=by
  rw[CT];refine qP λx _=> ?_
  by_cases B:rep x=b<;>grind
 unfold cnt;rw[e];exact List.length_filter_lt_length_iff_exists.2 ⟨b,cH.2 ⟨eM.2 l,by simp_all⟩,ah⟩
end
end
def h443 {h:bR} {T F n:Nat} {sb:Int->Int->Prop} (H:HM h T sb) {U:Gr} {W:List (Nat×Nat)} {o:List dr} (hF:F<=1000000):∀(c k:Nat) (wt:List dr) (par ty:List Int) (ar:List (List bY)) (rep d:Nat->Nat),
  cnt n rep<=c->wt.length<=k->wt.length+cnt n rep *F<=500000000->JI T (AO F n) sb U n W wt par ty ar rep d->
  (∃q z w D d',yQ wt o h.Types h.cE par ty ar=some (true,q,z,w)/\JI T (AO F n) sb U n W [] q z w D d')\/
  ((∃q z w,yQ wt o h.Types h.cE par ty ar=some (false,q,z,w))/\∀C m,Y6 C->SH sb U n W C m->False):=by
 intro c;induction c using Nat.strongRecOn with
 |ind c ihc=>
 intro k;induction k with
 |zero=>intro wt par ty ar rep d hc hk hb J;have e:wt=[]:=oK.1 af;subst e;exact .inl ⟨par,ty,ar,rep,d,Ub (by rw[cond_neg (by rfl)]),J⟩
 |succ k ihk=>
  intro wt par ty ar rep d hc hk hb J;rcases List.eq_nil_or_concat wt with rfl|⟨I,p,rfl⟩
  .exact .inl ⟨par,ty,ar,rep,d,Ub (by rw[cond_neg (by rfl)]),J⟩
  .rw[List.concat_eq_append] at *;have hl:(I++[p]).length=I.length+1:=ah;rw[hl] at hk hb;obtain⟨⟨p1,p2⟩,p3,p4⟩:=J.wo p ah;obtain⟨B,hx0⟩:=eN p1;obtain⟨x1,hx1⟩:=eN p3;have hx0n:B<n:=af;have hx1n:x1<n:=af;have r0:p.a0.toNat=B:=af;have r1:p.a1.toNat=x1:=af;obtain⟨pa,f1,P1⟩:=c485 (TL:=h.Types) (FL:=h.cE) (ty:=ty) (ar:=ar) hx0n J.pi;obtain⟨O,f2,P2⟩:=c485 (TL:=h.Types) (FL:=h.cE) (ty:=ty) (ar:=ar) hx1n P1;have J2:=J.rQ P2;have hgN:∀{R:Type} (k:dr->Option R),ek (I++[p]) I.length k=k p:=λk=>gF ah k
   have step:∀(r:Bool×List Int×List Int×List (List bY)),(bif(((rep B:Nat):Int) !=((rep x1:Nat):Int)) then(
     FG (f486 ((rep B:Nat):Int) ((rep x1:Nat):Int) h.Types h.cE I O ty ar) λy215 w218 P S V=>bif(!y215) then some (false,P,S,V) else yQ w218 o h.Types h.cE P S V)
     else yQ I o h.Types h.cE O ty ar)=some r->yQ (I++[p]) o h.Types h.cE par ty ar=some r:=by
    intro r hr;refine Ub ?_;rw[hl,cond_pos (by rw[bH];omega),xB af,uP af,aR,hgN,bh ⟨af,af⟩,hx0,f1,gA,hx1,f2,gA,List.take_left' rfl];exact hr
   by_cases L:rep B=rep x1
   .have J3:=J2.skip (by rw[r0,r1];exact L);rcases ihk I O ty ar rep d hc af af J3 with⟨q,z,w,D,d',g1,g2⟩|⟨⟨q,z,w,g1⟩,g2⟩
    .exact .inl ⟨q,z,w,D,d',step _ (by rw[cond_neg (by rw[L];simp)];exact g1),g2⟩
    .exact .inr ⟨⟨q,z,w,step _ (by rw[cond_neg (by rw[L];simp)];exact g1)⟩,g2⟩
   .have ha:rep p.a0.toNat=rep B:=by rw[r0]
    have N:rep p.a1.toNat=rep x1:=by rw[r1]
    obtain⟨K,G,hra,hrb⟩:=J2.rn ha N;have hal:rep B<ar.length:=by rw[J.la];exact K
    have X5:rep x1<ar.length:=by rw[J.la];exact G
    have hat:rep B<ty.length:=by rw[J.lt];exact K
    have hbt:rep x1<ty.length:=by rw[J.lt];exact G
    have hbp:rep x1<O.length:=by rw[P2.len];exact G
    have X4:(((rep B:Nat):Int) !=((rep x1:Nat):Int))=true:=by rw[j0];omega
    have ta:=J.tr _ K;have tb:=J.tr _ G;rcases H.mt _ _ ta.1 ta.2 tb.1 tb.2 with⟨t,m1,m2,m3,m4,m5⟩|⟨t,m1,m2,m3⟩
    .have la:=(J.ao _ K).len;have lb:=(J.ao _ G).len;have M:=F1 _ (ar.getD (rep B) []) (ar.getD (rep x1) []) (aU _);have J3:=J2.merge ha N L (λl hl c hc=>(hl.ok c hc).2) (λh1 h2=>H.to.trans h1 h2) M ((J.ao _ K).mg (J.ao _ G)) (H.to.rr m3) m3 m4 m5;have hcm:=Lc J2 ha N L;have f3:f486 ((rep B:Nat):Int) ((rep x1:Nat):Int) h.Types h.cE I O ty ar=some (true,I++(mg (ar.getD (rep B) []) (ar.getD (rep x1) [])).2,O.set (rep x1) ((rep B:Nat):Int),ty.set (rep B) t,ar.set (rep B) (mg (ar.getD (rep B) []) (ar.getD (rep x1) [])).1):=by
      refine e486 ?_;rw[qH hat,qH hbt];rw[show(bR.mk h.Types h.cE)=h from rfl,m1,ak,cond_neg (by rfl),qH hbp,qH hat,Y3 hal,Y3 X5,aR,aR,h486 hal _ _ _ _ _ (aU _) (by simp only[er];omega) af,dh]
     have hmul:(cnt n (λx=>if rep x=rep x1 then rep B else rep x)+1) *F<=cnt n rep *F:=jB F hcm;rw[sU] at hmul;have hml:=M.le;rcases ihc _ (eO (Nat.lt_of_succ_le hcm) hc) (I++(mg (ar.getD (rep B) []) (ar.getD (rep x1) [])).2).length _ _ _ _ _ _ (aU _) (aU _) (by rw[cS];omega) J3 with⟨q,z,w,D,d',g1,g2⟩|⟨⟨q,z,w,g1⟩,g2⟩
     .exact .inl ⟨q,z,w,D,d',step _ (by rw[cond_pos X4,f3,r7,cond_neg (by rfl)];exact g1),g2⟩
     .exact .inr ⟨⟨q,z,w,step _ (by rw[cond_pos X4,f3,r7,cond_neg (by rfl)];exact g1)⟩,g2⟩
    .have f3:f486 ((rep B:Nat):Int) ((rep x1:Nat):Int) h.Types h.cE I O ty ar=some (false,I,O,ty,ar):=by
      refine e486 ?_;rw[qH hat,qH hbt];rw[show(bR.mk h.Types h.cE)=h from rfl,m1,ak,cond_pos (by rfl)]
     exact .inr ⟨⟨_,_,_,step _ (by rw[cond_pos X4,f3,r7,cond_pos (by rfl)])⟩,J2.no ha N m3⟩
def ZR (n:Nat) (rep:Nat->Nat):cnt n rep<=n:=by grind[cnt]
def c443 {h:bR} {T F n:Nat} {sb:Int->Int->Prop} (H:HM h T sb) {U:Gr} {W:List (Nat×Nat)} (hF:F<=1000000) {par ty:List Int} {ar:List (List bY)} {rep d:Nat->Nat} {a b:Nat} (ha:a<n) (hb:b<n) (hn:n *F<=400000000) (J:JI T (AO F n) sb U n W [] par ty ar rep d):
  (∃l w q z B,f443 (a:Int) (b:Int) h.Types h.cE par ty ar=some (true,l,w,q)/\JI T (AO F n) sb U n (W++[(a,b)]) [] l w q z B)\/
  ((∃l w q,f443 (a:Int) (b:Int) h.Types h.cE par ty ar=some (false,l,w,q))/\∀C m,Y6 C->SH sb U n (W++[(a,b)]) C m->False):=by
 have I:cnt n rep *F<=n *F:=jB F (ZR n _);rcases h443 H (o:=[]) hF _ 1 _ _ _ _ _ d (aU _) ah (by grind) (J.start ha hb) with⟨l,w,q,z,B,D,G⟩|⟨⟨l,w,q,D⟩,G⟩
 .grind[e443]
 simp_all[e443]
def lu (ty:List Int) (ar:List (List bY)) (rep:Nat->Nat):Gr:=⟨λx=>(ar.getD x []).map λa=>(a.aT,rep a.To.toNat),λx=>ty.getD x 0⟩
def JI.uni {T F n:Nat} {sb:Int->Int->Prop} {U:Gr} {W:List (Nat×Nat)} {par ty:List Int} {ar:List (List bY)} {rep d:Nat->Nat} (J:JI T (AO F n) sb U n W [] par ty ar rep d) (K:Bd U.sc n):Uni T F sb U n W (lu ty ar rep) rep:=by
 refine⟨⟨λx l p q=> ?_,λx l=> ?_,λx l p q=> ?_,λx l=>J.tr x l⟩,J.pi.rl,J.pi.rr,λx l p q=> ?_,⟨J.sty,λx l p q=> ?_,λp q=>(J.seq p q).done⟩,λC m H I x l=> ?_⟩
 .obtain⟨a,ha,rfl⟩:=aD.1 q;exact J.pi.rl _ (by have:=((J.ao x l).ok a ha).2;omega)
 .show zl (List.map _ _);unfold zl;rw[gU];exact(J.ao x l).yh
 .obtain⟨a,ha,rfl⟩:=aD.1 q;exact((J.ao x l).ok a ha).1
 .obtain⟨a,ha,rfl⟩:=aD.1 q;exact J.pi.rr _ (by have:=((J.ao x l).ok a ha).2;omega)
 .obtain⟨a,ha,D,G⟩:=J.Y4 x l p q;refine aD.2 ⟨a,ha,?_⟩;rw[D,G.done]
 .obtain⟨e1,B,_⟩:=J.dK C m H I;obtain⟨w,z⟩:=B (rep x) (J.pi.rl x l) (J.pi.rr x l);rw[e1 x l] at w z;refine⟨e1 x l,w,λp q=> ?_⟩;obtain⟨a,ha,rfl⟩:=aD.1 q;show(a.aT,m (rep a.To.toNat))∈_;rw[e1 _ (by have:=((J.ao _ (J.pi.rl x l)).ok a ha).2;omega)];exact z a ha
end Go.Proofs.YthppjmoncapdfaaGreatDoor.cl.pf
namespace Go.Proofs.YthppjmoncapdfaaGreatDoor.cl.pf
open Go Go.AM
def Ns (G:Gr) (o:List Nat) (y:Nat):Node:=⟨G.ty y,(G.sc y).map λp=>⟨p.1,(o.idxOf p.2:Nat)⟩⟩
def MX {o l:List Nat} (h:o<+:l) {x:Nat} (q:x∈o):l.idxOf x=o.idxOf x:=by obtain⟨t,rfl⟩:=h;rw[qY,az q]
def ndO_pre {G:Gr} {o l:List Nat} (h:o<+:l) {y:Nat} (w:∀p∈G.sc y,p.2∈o):Ns G o y=Ns G l y:=by unfold Ns;congr 1;exact gT λp q=>by rw[MX h (w p q)]
structure NO (n:Nat) (num:List Int) (o:List Nat):Prop where
 len:num.length=n
 at_:∀x,x<n->num.getD x 0=if x∈o then(o.idxOf x:Int) else-1
def NO.snoc {n:Nat} {num:List Int} {o:List Nat} (h:NO n num o) {y:Nat} (z:y<n) (q:y∉o):NO n (num.set y (o.length:Int)) (o++[y]):=by
 refine⟨by rw[fM];exact h.len,λx w=> ?_⟩;rw[eG];by_cases e:y=x
 .subst e;rw[az ⟨rfl,by rw[h.len];exact z⟩,az ah,qY,au q];simp
 .rw[au (λh=>e h.1),h.at_ x w];by_cases l:x∈o
  .rw[az l,az (by simp[l]),qY,az l]
  .rw[au l,au (by simp[l];exact λh=>e h.symm)]
section
variable {T F n:Nat} {TL:List gL} {FL:List c8} {ty:List Int} {ar:List (List bY)} {rep d:Nat->Nat}
variable (la:ar.length=n) (lt:ty.length=n) (hao:∀x,x<n->AO F n (ar.getD x [])) (hrl:∀x,x<n->rep x<n) (hrr:∀x,x<n->rep (rep x)=rep x) (hF:F<=1000000) (hn:n<=1000000)
include hao hrl in
theorem ZP:Bd (lu ty ar rep).sc n:=λx q p l=>by obtain⟨a,ha,rfl⟩:=aD.1 l;exact hrl _ (by have:=((hao x q).ok a ha).2;omega)
def VisR (n:Nat) (G:Gr) (rep d:Nat->Nat) (ty:List Int) (ar:List (List bY)) (res:Option (Int×List Int×List Node×List Int×List Int×List (List bY))) (w:Nat) (o z:List Nat) (out:List Node):Prop:=
 ∃l q,res=some ((w:Int),l,out++(z.drop o.length).map (Ns G z),q,ty,ar)/\NO n l z/\PI n q rep d
include la lt hao hrl hF hn
theorem h487_9 {k:Nat} {o:List Nat} {y:Nat} {out:List Node} (hy:y<n) (hyo:y∉o) (N:out.length=o.length)
  (ih:∀(x:Nat) (o:List Nat) (num:List Int) (out:List Node) (par:List Int),x<n->NO n num o->PI n par rep d->Met n o->n<k+o.length->out.length=o.length->
   VisR n (lu ty ar rep) rep d ty ar (f487 (x:Int) TL FL num out par ty ar) ((nX (lu ty ar rep).sc k (rep x) o).idxOf (rep x)) o (nX (lu ty ar rep).sc k (rep x) o) out):
  ∀(l:List bY) (i:Nat) (q:List Nat) (num par:List Int),(ar.getD y []).drop i=l->NO n num q->PI n par rep d->Met n q->o++[y]<+:q->n<k+q.length->
   (∀z∈q.drop (o.length+1),∀p∈(lu ty ar rep).sc z,p.2∈q)->(∀a∈(ar.getD y []).take i,rep a.To.toNat∈q)->
   ∃B D,Pj (o.length:Int) (ar.getD y []) ((ar.getD y []).length:Int) (i:Int) (((ar.getD y []).take i).map λa=>⟨a.aT,(q.idxOf (rep a.To.toNat):Nat)⟩) TL FL num ((out++[⟨ty.getD y 0,[]⟩])++(q.drop (o.length+1)).map (Ns (lu ty ar rep) q)) par ty ar=
    some ((o.length:Int),B,(out++[Ns (lu ty ar rep) (rS (lu ty ar rep).sc k (l.map λa=>(a.aT,rep a.To.toNat)) q) y])++((rS (lu ty ar rep).sc k (l.map λa=>(a.aT,rep a.To.toNat)) q).drop (o.length+1)).map (Ns (lu ty ar rep) (rS (lu ty ar rep).sc k (l.map λa=>(a.aT,rep a.To.toNat)) q)),D,ty,ar)/\
    NO n B (rS (lu ty ar rep).sc k (l.map λa=>(a.aT,rep a.To.toNat)) q)/\PI n D rep d:=by
 have hB:Bd (lu ty ar rep).sc n:=ZP hao hrl;have hal:=(hao y hy).len;intro l;induction l with
 |nil=>intro i q num par H hN hP hM I hk P G;refine⟨num,par,acp ?_,hN,hP⟩;rw[bq H,aA,uP aF,aR,gF (x:=⟨ty.getD y 0,[]⟩) (by rw[dD aF,ga af,N];simp)];have e1:(ar.getD y []).take i=ar.getD y []:=gd (iq H);rw[e1];simp only[dR,rS,List.foldl_nil];congr 4;rw[CL _ _ aF,mO _ _ af,N,mS,qZ];congr 3;unfold Ns lu;simp only[eV];rfl
 |cons a l ih2=>
  intro i q num par H hN hP hM I hk P G;have ha:a∈ar.getD y []:=aI (bA H);have hok:=((hao y hy).ok a ha).2;obtain⟨x,hx⟩:=eN hok.1;have S:x<n:=af;have K:a.To.toNat=x:=af;have hol:o.length+1<=q.length:=by have:=I.length_le;simpa using this
  obtain⟨B,D,f1,N1,P1⟩:=ih x q num ((out++[⟨ty.getD y 0,[]⟩])++(q.drop (o.length+1)).map (Ns (lu ty ar rep) q)) par S hN hP hM hk aF;have w:=Ez (sc:=(lu ty ar rep).sc) k (rep x) q;have V:=yV hB k (rep x) q hM (hrl x S);obtain⟨c1,c2⟩:=yU hB k (rep x) q hM (hrl x S) hk;have hlen2:=w.length_le
  obtain⟨num2,par2,g1,g2,g3⟩:=ih2 (i+1) (nX (lu ty ar rep).sc k (rep x) q) B D (aH H) N1 P1 V (I.trans w) af (λz L p hp=>by
    by_cases h2:z∈q.drop (o.length+1)
    .exact w.subset (P z h2 p hp)
    .by_cases h3:z∈q
     .obtain⟨t,ht⟩:=w;rw[<-ht,ug hol] at L;rcases bw.1 L with L|L
      .exact absurd L h2
      .have:=V.nd;rw[<-ht,gW] at this;exact absurd rfl (this.2.2 z h3 z L)
     .exact c2 z (uJ L) h3 p hp) (λb hb=>by
    rw[cr] at hb;rcases bw.1 hb with hb|hb
    .exact w.subset (G b hb)
    .rw[bA H] at hb;simp at hb;subst hb
     rw[K];exact c1)
  refine⟨num2,par2,acp ?_,?_,g3⟩
  .have hcat:(out++[⟨ty.getD y 0,[]⟩])++(q.drop (o.length+1)).map (Ns (lu ty ar rep) q)++((nX (lu ty ar rep).sc k (rep x) q).drop q.length).map (Ns (lu ty ar rep) (nX (lu ty ar rep).sc k (rep x) q))=
     (out++[⟨ty.getD y 0,[]⟩])++((nX (lu ty ar rep).sc k (rep x) q).drop (o.length+1)).map (Ns (lu ty ar rep) (nX (lu ty ar rep).sc k (rep x) q)):=by
    rw[eT];refine aK (λz=>(out++[(⟨ty.getD y 0,[]⟩:Node)])++z) ?_;have e1:(q.drop (o.length+1)).map (Ns (lu ty ar rep) q)=(q.drop (o.length+1)).map (Ns (lu ty ar rep) (nX (lu ty ar rep).sc k (rep x) q)):=
     gT λz L=>ndO_pre w (P z L)
    rw[e1,<-bM];refine aK (List.map _) ?_;obtain⟨t,ht⟩:=w;rw[<-ht,List.drop_left,ug hol]
   have O:(((ar.getD y []).take i).map λa=>(⟨a.aT,(q.idxOf (rep a.To.toNat):Nat)⟩:bY))++[⟨a.aT,((nX (lu ty ar rep).sc k (rep x) q).idxOf (rep x):Nat)⟩]=
     ((ar.getD y []).take (i+1)).map λa=>(⟨a.aT,((nX (lu ty ar rep).sc k (rep x) q).idxOf (rep a.To.toNat):Nat)⟩:bY):=by
    rw[cr,bA H,bM];rw[gT (g:=λa=>(⟨a.aT,((nX (lu ty ar rep).sc k (rep x) q).idxOf (rep a.To.toNat):Nat)⟩:bY)) λb hb=>by rw[MX w (G b hb)]];simp[K]
   have hlt:=c9 H;rw[bf H,ai,aQ H,hx,f1,HP,bU _ (by rw[aV,fI];omega) ah af,aX H af,hcat];have:=O;rw[this,g1];simp only[aS,rS,fD,K]
  .simp only[aS,rS,fD,K];exact g2
include hrr in
theorem h487:∀(k x:Nat) (o:List Nat) (num:List Int) (out:List Node) (par:List Int),x<n->NO n num o->PI n par rep d->Met n o->n<k+o.length->out.length=o.length->
  VisR n (lu ty ar rep) rep d ty ar (f487 (x:Int) TL FL num out par ty ar) ((nX (lu ty ar rep).sc k (rep x) o).idxOf (rep x)) o (nX (lu ty ar rep).sc k (rep x) o) out:=by
 have hB:Bd (lu ty ar rep).sc n:=ZP hao hrl;intro k;induction k with
 |zero=>intro x o num out par hx I hP K hk _;have:=vN K.nd K.lt;omega
 |succ k ih=>
  intro x o num out par hx I hP K hk B;obtain⟨H,f1,P1⟩:=c485 (TL:=TL) (FL:=FL) (ty:=ty) (ar:=ar) hx hP;have w:=hrl x hx;have q:rep x<num.length:=by rw[I.len];exact w
  have htl:rep x<ty.length:=by rw[lt];exact w
  have hal:rep x<ar.length:=by rw[la];exact w
  have hol:=vN K.nd K.lt;by_cases l:rep x∈o
  .have P:nX (lu ty ar rep).sc (k+1) (rep x) o=o:=by rw[nX,az l]
   rw[P];refine⟨num,H,e487 ?_,I,P1⟩;rw[f1,gA,qH q,I.at_ _ w,az l,cond_pos (by rw[bH];omega),qH q,I.at_ _ w,az l];simp
  .have P:nX (lu ty ar rep).sc (k+1) (rep x) o=rS (lu ty ar rep).sc k ((ar.getD (rep x) []).map λa=>(a.aT,rep a.To.toNat)) (o++[rep x]):=by rw[nX,au l];rfl
   have V:=K.snoc w l;obtain⟨N,O,S,g2,g3⟩:=h487_9 (TL:=TL) (FL:=FL) (d:=d) la lt hao hrl hF hn w l B ih (ar.getD (rep x) []) 0 (o++[rep x]) (num.set (rep x) (o.length:Int)) H rfl (I.snoc w l) P1 V (mR _) (by simp only[cS,j4];omega)
    (λz hz=>by rw[mU ah] at hz;cases hz) (λb hb=>by cases hb)
   rw[P];have D:=AK (sc:=(lu ty ar rep).sc) k ((ar.getD (rep x) []).map λa=>(a.aT,rep a.To.toNat)) (o++[rep x]);generalize rS (lu ty ar rep).sc k ((ar.getD (rep x) []).map λa=>(a.aT,rep a.To.toNat)) (o++[rep x])=G at *;have hat:G.idxOf (rep x)=o.length:=by rw[MX D ah,qY,au l];simp
   refine⟨N,O,e487 ?_,g2,g3⟩;rw[f1,gA,qH q,I.at_ _ w,au l,cond_neg (by rfl),qH q,qH htl,bU _ af ah af,Y3 hal,aR,B,hat];rw[mU ah,dR,e7,List.take_zero,dR] at S;have e0:((0:Nat):Int)=0:=rfl;rw[e0] at S;rw[S];have L:(out++[Ns (lu ty ar rep) G (rep x)])++(G.drop (o.length+1)).map (Ns (lu ty ar rep) G)=out++(G.drop o.length).map (Ns (lu ty ar rep) G):=by
    have e2:G.drop o.length=rep x::G.drop (o.length+1):=by obtain⟨t,ht⟩:=D;rw[<-ht,eT,List.drop_left,<-eT,ug ah,mU ah];rfl
    rw[e2,aS,eT];rfl
   rw[L]
theorem h444 {root:Nat} {f0:FSt} {o5:List Int} {res:FSt×List Int×List Int×List (List bY)} {par:List Int}:∀(k i:Nat),n=i+k->
  (PL (f487 (root:Int) TL FL (replicate n (-1)) ([]:List Node) par ty ar) λG D l q w z=>some ((FSt.mk l),q,w,z))=some res->
  O7 (root:Int) (n:Int) (i:Int) f0 (replicate i (-1)++replicate k 0) o5 TL FL par ty ar=some res:=by
 intro k;induction k with
 |zero=>
  intro i H B;refine ab6 ?_
  have:i=n:=af
  subst this;rw[cond_neg (by rw[bP];omega),C0,e7];exact B
 |succ k K=>
  intro i H B;refine ab6 ?_;have I:i<(replicate i (-1:Int)++replicate (k+1) 0).length:=ah;rw[cond_pos (by rw[bH];omega),qH I,aR,bp af];have e:(replicate i (-1:Int)++replicate (k+1) 0).set i (-1)=replicate (i+1) (-1)++replicate k 0:=by rw[mO _ _ ah,j5,mS,vw,qZ,mY];simp
  rw[e];exact K (i+1) af B
include hrr in
theorem c444 {root:Nat} {par:List Int} (z:root<n) (P:PI n par rep d):∃l,f444 (root:Int) TL FL par ty ar=some (lM (lu ty ar rep) n (rep root),l,ty,ar):=by
 have w:NO n (replicate n (-1)) []:=⟨ah,λx B=>by rw[au ah,aZ,jr,az B];rfl⟩
 obtain⟨q,l,f1,_,_⟩:=h487 (TL:=TL) (FL:=FL) (d:=d) la lt hao hrl hrr hF hn (n+1) root [] (replicate n (-1)) [] par z w P Met.nil ah rfl;refine⟨l,e444 ?_⟩;rw[bh ⟨af,by omega,by rw[P.len];omega,by rw[P.len];omega⟩,P.len,aR,j5];have:=h444 (TL:=TL) (FL:=FL) (root:=root) (f0:=⟨[]⟩) (o5:=[]) (par:=par) la lt hao hrl hF hn n 0 af (by rw[f1,HP]);rw[C0,dh] at this;exact this
end
