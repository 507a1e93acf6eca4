/- Unification by classes (the program's). -/
import Derived.Test.YthppjmoncapdfaaGreatDoorClXc
import Derived.Test.YthppjmoncapdfaaGreatDoorClSh
set_option linter.all false
open Int (toNat)
open List (length replicate)
namespace Go.Proofs.YthppjmoncapdfaaGreatDoor.cl.pf
open Go Go.AM
section
variable {R:Type}
def qF {l:List Int} {i:Nat} (h:i<l.length) (k:Int->Option R):check (0<=(i:Int)/\toNat (i:Int)<l.length) (dY l (toNat (i:Int)) k)=k (l.getD i 0):=by rw[bh ⟨af,by simpa using h⟩,aP];exact VE h k
def YN {q:Type} {l:List (List q)} {i:Nat} (h:i<l.length) (k:List q->Option R):check (0<=(i:Int)/\toNat (i:Int)<l.length) (dY l (toNat (i:Int)) k)=k (l.getD i []):=by rw[bh ⟨af,by simpa using h⟩,aP];exact VE h k
theorem uK {l:Nat} {i:Nat} (h:i<l) (a:Option R):check (0<=(i:Int)/\toNat (i:Int)<l) a=a:=bh ⟨af,by simpa using h⟩ a
def gy {l q w z:Type} (a:l) (b:q) (c:w) (d:z) (k:l->q->w->z->Option R):tF (some (a,b,c,d)) k=k a b c d:=rfl
def rX {l q w z B:Type} (a:l) (b:q) (c:w) (d:z) (e:B) (k:l->q->w->z->B->Option R):Ft (some (a,b,c,d,e)) k=k a b c d e:=rfl
def HC {l q w z B D:Type} (a:l) (b:q) (c:w) (d:z) (e:B) (g:D) (k:l->q->w->z->B->D->Option R):PB (some (a,b,c,d,e,g)) k=k a b c d e g:=rfl
end
def eF {q:Type} (l:List q) (i j:Nat) (v d:q):(l.set i v).getD j d=if i=j/\j<l.length then v else l.getD j d:=by
 rw[aX,aX,qy];by_cases e:i=j
 .subst e;by_cases h:i<l.length
  .simp[h]
  .simp[h]
 .simp[e]
structure PI (n:Nat) (par:List Int) (rep d:Nat->Nat):Prop where
 len:par.length=n
 up:∀x,x<n->∃y,y<n/\par.getD x 0=(y:Int)/\rep y=rep x/\(y=x\/d y<d x)
 fix:∀x,x<n->(par.getD x 0=(x:Int)↔rep x=x)
 rl:∀x,x<n->rep x<n
 rr:∀x,x<n->rep (rep x)=rep x
section
variable {n:Nat} {rep d:Nat->Nat} {TL:List gK} {FL:List c4} {ty:List Int} {ar:List (List bX)}
def h485:∀(k x:Nat) (par:List Int),d x<=k->x<n->PI n par rep d->∃q,Kb (x:Int) TL FL par ty ar=some (((rep x:Nat):Int),q,ty,ar)/\PI n q rep d:=by intro k;induction k with
 |zero=>
  intro x par hk D P;obtain⟨y,O,B,K,h3⟩:=P.up x D;have l:x<par.length:=by rw[P.len];exact D
  have e:y=x:=af;subst e;refine⟨par,T6 ?_,P⟩;rw[qF l,B,cond_neg ah,(P.fix y D).1 B]
 |succ k ih=>
  intro x par hk D P;obtain⟨y,O,B,K,h3⟩:=P.up x D;have l:x<par.length:=by rw[P.len];exact D
  have S:y<par.length:=by rw[P.len];exact O
  by_cases e:y=x
  .subst e;refine⟨par,T6 ?_,P⟩;rw[qF l,B,cond_neg ah,(P.fix y D).1 B]
  .have h3:d y<d x:=af;obtain⟨z,hz,g1,V,g3⟩:=P.up y O;have H:d z<d x:=by rcases g3 with rfl|g3<;>omega
   have P':PI n (par.set x z) rep d:=by
    refine⟨by rw[fK];exact P.len,λw N=> ?_,λw N=> ?_,P.rl,P.rr⟩
    .by_cases G:x=w
     .subst G;exact⟨z,hz,by rw[eF,au ⟨rfl,l⟩],by rw[V,K], .inr H⟩
     .obtain⟨v,L⟩:=P.up w N;exact⟨v,L.1,by rw[eF,aq (λh=>G h.1)];exact L.2.1,L.2.2⟩
    .by_cases G:x=w
     .subst G;rw[eF,au ⟨rfl,l⟩];have hxz:z≠x:=λe=>by rw[e] at H;omega
      have:=P.fix x D;rw[B] at this;constructor
      .intro h;omega
      .intro h;have:=this.2 h;omega
     .rw[eF,aq (λh=>G h.1)];exact P.fix w N
   obtain⟨q,r1,r2⟩:=ih z (par.set x z) af hz P';refine⟨q,T6 ?_,r2⟩;rw[qF l,B,cond_pos aD,qF l,B,qF S,g1,qF l,aP];have hs:x<(par.set x (z:Int)).length:=by rw[fK];exact l
   have h0:=qF hs (λI=>Kb I TL FL (par.set x (z:Int)) ty ar);rw[aP] at h0;rw[h0,eF,au ⟨rfl,l⟩,r1,V,K]
def c485 {x:Nat} {par:List Int} (z:x<n) (P:PI n par rep d):∃l,f485 (x:Int) TL FL par ty ar=some (((rep x:Nat):Int),l,ty,ar)/\PI n l rep d:=by obtain⟨l,q,w⟩:=h485 (TL:=TL) (FL:=FL) (ty:=ty) (ar:=ar) (d x) x par (aT _) z P;exact⟨l,e485 q,w⟩
end
def mg:List bX->List bX->List bX×List dh
 |[],l=>(l,[])
 |x::xs,[]=>(x::xs,[])
 |x::xs,y::l=>
  if x.aS<y.aS then(x::(mg xs (y::l)).1,(mg xs (y::l)).2)
  else if y.aS<x.aS then(y::(mg (x::xs) l).1,(mg (x::xs) l).2)
  else(x::(mg xs l).1,⟨x.To,y.To⟩::(mg xs l).2)
 termination_by x y=>x.length+y.length
def EK (l:List bX):mg [] l=(l,[]):=by rw[mg]
def GN (xs:List bX):mg xs []=(xs,[]):=by cases xs<;>rw[mg]
def acg {x y:bX} (xs l:List bX) (h:x.aS<y.aS):mg (x::xs) (y::l)=(x::(mg xs (y::l)).1,(mg xs (y::l)).2):=by rw[mg,au h]
def acf {x y:bX} (xs l:List bX) (h:y.aS<x.aS):mg (x::xs) (y::l)=(y::(mg (x::xs) l).1,(mg (x::xs) l).2):=by rw[mg,aq af,au h]
def ace {x y:bX} (xs l:List bX) (h:x.aS=y.aS):mg (x::xs) (y::l)=(x::(mg xs l).1,⟨x.To,y.To⟩::(mg xs l).2):=by rw[mg,aq af,aq af]
structure MG (x y:List bX) (r:List bX×List dh):Prop where
 sub:∀a∈r.1,a∈x\/a∈y
 left:∀a∈x,a∈r.1
 right:∀a∈y,∃b∈r.1,b.aS=a.aS/\(b=a\/⟨b.To,a.To⟩∈r.2)
 pair:∀p∈r.2,∃a∈x,∃b∈y,a.aS=b.aS/\p=⟨a.To,b.To⟩
 le:r.2.length<=y.length
def yX (l:List bX):Prop:=l.Pairwise λp q=>p.aS<q.aS
def FN:∀(k:Nat) (x y:List bX),x.length+y.length<=k->MG x y (mg x y)
 |_,[],y,_=>by rw[EK];exact⟨λa h=> .inr h,λa h=>by(cases h),λa h=>⟨a,h,rfl, .inl rfl⟩,λp h=>by(cases h),cV _⟩
 |_,x::xs,[],_=>by rw[GN];exact⟨λa h=> .inl h,λa h=>h,λa h=>by(cases h),λp h=>by(cases h),cV _⟩
 |0,x::xs,y::w,h=>by simp at h
 |k+1,x::xs,y::w,h=>by
  simp only[bg] at h;rcases xV x.aS y.aS with D|q|B
  .rw[acg _ _ D];have M:=FN k xs (y::w) (by simp only[bg];omega);refine⟨λa h=> ?_,λa h=> ?_,λa h=> ?_,λp h=> ?_,M.le⟩
   .rcases aF.1 h with rfl|h
    .exact .inl ah
    .rcases M.sub a h with h|h
     .exact .inl (by simp[h])
     .exact .inr h
   .rcases aF.1 h with rfl|h
    .simp
    .exact er _ (M.left a h)
   .obtain⟨b,hb,l⟩:=M.right a h;exact⟨b,er _ hb,l⟩
   .obtain⟨a,ha,b,hb,l⟩:=M.pair p h;exact⟨a,er _ ha,b,hb,l⟩
  .rw[ace _ _ q];have M:=FN k xs w af;refine⟨λa h=> ?_,λa h=> ?_,λa h=> ?_,λp h=> ?_,by simp only[bg];have:=M.le;omega⟩
   .rcases aF.1 h with rfl|h
    .exact .inl ah
    .rcases M.sub a h with h|h
     .exact .inl (by simp[h])
     .exact .inr (by simp[h])
   .rcases aF.1 h with rfl|h
    .simp
    .exact er _ (M.left a h)
   .rcases aF.1 h with rfl|h
    .exact⟨x,by simp,q, .inr ah⟩
    .obtain⟨b,hb,l,z⟩:=M.right a h;exact⟨b,er _ hb,l,z.imp id (er _)⟩
   .rcases aF.1 h with rfl|h
    .exact⟨x,by simp,y,by simp,q,rfl⟩
    .obtain⟨a,ha,b,hb,l⟩:=M.pair p h;exact⟨a,er _ ha,b,er _ hb,l⟩
  .rw[acf _ _ B];have M:=FN k (x::xs) w (by simp only[bg];omega);refine⟨λa h=> ?_,λa h=> ?_,λa h=> ?_,λp h=> ?_,by simp only[bg];have:=M.le;omega⟩
   .rcases aF.1 h with rfl|h
    .exact .inr ah
    .rcases M.sub a h with h|h
     .exact .inl h
     .exact .inr (by simp[h])
   .exact er _ (M.left a h)
   .rcases aF.1 h with rfl|h
    .exact⟨a,by simp,rfl, .inl rfl⟩
    .obtain⟨b,hb,l,z⟩:=M.right a h;exact⟨b,er _ hb,l,z⟩
   .obtain⟨a,ha,b,hb,l⟩:=M.pair p h;exact⟨a,ha,b,er _ hb,l⟩
def M9:∀(k:Nat) (x y:List bX),x.length+y.length<=k->yX x->yX y->yX (mg x y).1
 |_,[],y,_,_,h=>by rw[EK];exact h
 |_,x::xs,[],_,h,_=>by rw[GN];exact h
 |0,x::xs,y::w,h,_,_=>by simp at h
 |k+1,x::xs,y::w,h,G,H=>by
  simp only[bg] at h;have l:=dr.1 G;have q:=dr.1 H;rcases xV x.aS y.aS with B|D|z
  .rw[acg _ _ B];refine dr.2 ⟨λa ha=> ?_,M9 k xs (y::w) (by simp only[bg];omega) l.2 H⟩;rcases(FN k xs (y::w) (by simp only[bg];omega)).sub a ha with h|h
   .exact l.1 a h
   .rcases aF.1 h with rfl|h
    .exact B
    .have:=q.1 a h;omega
  .rw[ace _ _ D];refine dr.2 ⟨λa ha=> ?_,M9 k xs w af l.2 q.2⟩;rcases(FN k xs w af).sub a ha with h|h
   .exact l.1 a h
   .have:=q.1 a h;omega
  .rw[acf _ _ z];refine dr.2 ⟨λa ha=> ?_,M9 k (x::xs) w (by simp only[bg];omega) G q.2⟩;rcases(FN k (x::xs) w (by simp only[bg];omega)).sub a ha with h|h
   .rcases aF.1 h with rfl|h
    .exact z
    .have:=l.1 a h;omega
   .exact q.1 a h
def A8 {q:Type} (x:q) (l:List q):((x::l).take (length (x::l))).drop (toNat (1:Int))=l:=by rw[fJ];rfl
def AH {q R:Type} (x:q) (l:List q) (a:Option R):check (0<=(1:Int)/\(1:Int)<=(length (x::l):Nat)) a=a:=bh ⟨af,by simp only[bg];omega⟩ a
def iU {q R:Type} (x:q) (l:List q) (k:q->Option R):aV (x::l) 0 k=k x:=zK af rfl k
def h486 {a:Nat} {TL:List gK} {FL:List c4} {par ty:List Int} {ar:List (List bX)} (ha:a<ar.length):∀(k:Nat) (x y q:List bX) (wt:List dh),x.length+y.length<=k->x.length+y.length+q.length<=1000000000->wt.length+y.length<=1000000000->
  ni (a:Int) x y q TL FL wt par ty ar=some (true,wt++(mg x y).2,par,ty,ar.set a (q++(mg x y).1)):=by
 intro k;induction k with
 |zero=>intro x y q wt K _ _;have N:x=[]:=oI.1 af;have O:y=[]:=oI.1 af;subst N;subst O;refine abZ ?_;rw[cond_neg (by rfl),cond_neg (by rfl),YN ha,EK,eW,eW,aP]
 |succ k H=>
  intro x y q wt K w B;refine abZ ?_;have P:∀{I:Type} (x:I) (l:List I),decide ((length (x::l):Int)>0)=true:=λx l=>by rw[bF,bg];omega
  have Z:∀{I:Type} (x:I) (l:List I),((length (x::l):Int)==0)=false:=λx l=>by rw[iK,bg];omega
  cases x with
  |nil=>cases y with
   |nil=>rw[cond_neg (by rfl),cond_neg (by rfl),YN ha,EK,eW,eW,aP]
   |cons y z=>
    simp only[bg,ek] at K w B
    rw[cond_neg (by rfl),cond_pos (P y z),cond_neg (Z y z),cond_neg (by rfl),cond_pos (by rfl),iU,bT _ af ah af,AH,A8,
     H [] z (q++[y]) wt aD aD af,EK,EK]
    simp
  |cons x xs=>cases y with
   |nil=>
    simp only[bg,ek] at K w B
    rw[cond_pos (P x xs),cond_pos (by rfl),iU,bT _ af ah af,AH,A8,
     H xs [] (q++[x]) wt aD aD aD,GN,GN]
    simp
   |cons y z=>
    simp only[bg] at K w B;rw[cond_pos (P x xs),cond_neg (Z y z),cond_pos (P x xs),iU,iU];rcases xV x.aS y.aS with G|L|D
    .rw[cond_pos (by rw[bF];exact G),iU,bT _ af ah af,AH,A8,
      H xs (y::z) (q++[x]) wt aD aD aD,acg _ _ G]
     simp
    .rw[cond_neg (by rw[bM];omega),cond_neg (Z x xs),iU,iU,cond_neg (by rw[bM];omega),iU,iU,bT _ af ah af,iU,bT _ af ah af,AH,AH,A8,A8,
      H xs z (q++[x]) _ af aD aD,ace _ _ L]
     simp
    .rw[cond_neg (by rw[bM];omega),cond_neg (Z x xs),iU,iU,cond_pos (by rw[bF];exact D),iU,bT _ af ah af,AH,A8,
      H (x::xs) z (q++[y]) wt aD aD af,acf _ _ D]
     simp
end Go.Proofs.YthppjmoncapdfaaGreatDoor.cl.pf
namespace Go.Proofs.YthppjmoncapdfaaGreatDoor.cl.pf
open Go Go.AM
structure HM (h:bQ) (T:Nat) (sb:Int->Int->Prop):Prop where
 to:TO T sb
 mt:∀a b:Int,0<=a->a<(T:Int)->0<=b->b<(T:Int)->
  (∃t,f335 h a b=some (t,true)/\f336 h a b=some (t,true)/\sb a t/\sb b t/\∀c,sb a c->sb b c->sb t c)\/
  (∃t,f335 h a b=some (t,false)/\f336 h a b=some (t,false)/\∀c,sb a c->sb b c->False)
def LB (l:List dh):List (Nat×Nat):=l.map λp=>(p.a0.toNat,p.a1.toNat)
def xu (rep:Nat->Nat) (wt:List (Nat×Nat)) (x y:Nat):Prop:=∀E:Nat->Nat->Prop,Equivalence E->(∀a b,rep a=rep b->E a b)->(∀p∈wt,E p.1 p.2)->E x y
def xu.imp {rep l:Nat->Nat} {wt q:List (Nat×Nat)} {x y:Nat} (D:∀a b,rep a=rep b->xu l q a b) (G:∀p∈wt,xu l q p.1 p.2) (h:xu rep wt x y):xu l q x y:=
 λE w z B=>h E w (λa b hab=>D a b hab E w z B) λp H=>G p H E w z B
def xu.wv {rep:Nat->Nat} {wt:List (Nat×Nat)} {x y:Nat} (h:rep x=rep y):xu rep wt x y:=λE _ l _=>l x y h
theorem xu.I5 {rep:Nat->Nat} {wt:List (Nat×Nat)} {p:Nat×Nat} (h:p∈wt):xu rep wt p.1 p.2:=λE _ _ l=>l p h
def xu.symm {rep:Nat->Nat} {wt:List (Nat×Nat)} {x y:Nat} (h:xu rep wt x y):xu rep wt y x:=λE l q w=>l.symm (h E l q w)
theorem xu.trans {rep:Nat->Nat} {wt:List (Nat×Nat)} {x y z:Nat} (h:xu rep wt x y) (B:xu rep wt y z):xu rep wt x z:=λE l q w=>l.trans (h E l q w) (B E l q w)
def xu.done {rep:Nat->Nat} {x y:Nat} (h:xu rep [] x y):rep x=rep y:=
 h (λa b=>rep a=rep b) ⟨λ_=>rfl,λh=>h.symm,λh l=>h.trans l⟩ (λ_ _ h=>h) (λp q=>by cases q)
structure AO (F n:Nat) (l:List bX):Prop where
 x8:yX l
 ok:∀a∈l,(0<=a.aS/\a.aS<(F:Int))/\0<=a.To/\a.To<(n:Int)
def AO.len {F n:Nat} {l:List bX} (h:AO F n l):l.length<=F:=by
 have:=vI (N:=F) (o:=l.map λa=>a.aS.toNat) (by
  have q:=h.x8;have w:=h.ok;clear h;induction l with
  |nil=>simp
  |cons x l G=>
   have z:=dr.1 q;rw[aR,fu];refine⟨λH=> ?_,G z.2 λa ha=>w a (by simp[ha])⟩
   grind) (λx B=>by
  obtain⟨y,D,rfl⟩:=aC.1 B;have:=(h.ok y D).1
  omega)
 simp_all
def AO.mg {F n:Nat} {x y:List bX} (l:AO F n x) (q:AO F n y):AO F n (mg x y).1:=
 ⟨M9 _ x y (aT _) l.x8 q.x8,λa ha=>((FN _ x y (aT _)).sub a ha).elim (l.ok a) (q.ok a)⟩
structure JI (T:Nat) (Q:List bX->Prop) (sb:Int->Int->Prop) (U:Gr) (n:Nat) (W:List (Nat×Nat)) (wt:List dh) (par ty:List Int) (ar:List (List bX)) (rep d:Nat->Nat):Prop where
 pi:PI n par rep d
 lt:ty.length=n
 la:ar.length=n
 tr:∀x,x<n->0<=ty.getD x 0/\ty.getD x 0<(T:Int)
 ao:∀x,x<n->Q (ar.getD x [])
 wo:∀p∈wt,(0<=p.a0/\p.a0<(n:Int))/\0<=p.a1/\p.a1<(n:Int)
 sty:∀x,x<n->sb (U.ty x) (ty.getD (rep x) 0)
 YO:∀x,x<n->∀p∈U.sc x,∃a∈ar.getD (rep x) [],a.aS=p.1/\xu rep (LB wt) p.2 a.To.toNat
 seq:∀p∈W,xu rep (LB wt) p.1 p.2
 dH:∀C m,YQ C->Sx sb U n W C m->(∀x,x<n->m (rep x)=m x)/\(∀x,x<n->rep x=x->sb (ty.getD x 0) (C.ty (m x))/\∀a∈ar.getD x [],(a.aS,m a.To.toNat)∈C.sc (m x))/\∀p∈LB wt,m p.1=m p.2
def cnt (n:Nat) (rep:Nat->Nat):Nat:=((List.range n).filter λx=>rep x==x).length
section
variable {T:Nat} {Q:List bX->Prop} {sb:Int->Int->Prop} {U:Gr} {n:Nat} {W:List (Nat×Nat)} {wt:List dh} {par ty:List Int} {ar:List (List bX)} {rep d:Nat->Nat}
theorem rq (p:dh):LB (wt++[p])=LB wt++[(p.a0.toNat,p.a1.toNat)]:=by simp[LB]
def JI.rL (h:JI T Q sb U n W wt par ty ar rep d) {l:List Int} {q:Nat->Nat} (w:PI n l rep q):JI T Q sb U n W wt l ty ar rep q:={ h with pi:=w }
def JI.skip {p:dh} (h:JI T Q sb U n W (wt++[p]) par ty ar rep d) (e:rep p.a0.toNat=rep p.a1.toNat):JI T Q sb U n W wt par ty ar rep d:=by
 have key:∀{x y},xu _ (LB (wt++[p])) x y->xu _ _ x y:=λ{x y}=>xu.imp (λa b hab=> .wv hab) λq l=>by
  rw[rq] at l;rcases bu.1 l with l|l
  .exact .I5 l
  .rw[bW] at l;subst l;exact .wv e
 refine { h with wo:=λq l=>h.wo q (by simp[l]),YO:=λx H q l=> ?_,seq:=λq l=>key (h.seq q l),dH:=λC m D G=> ?_ }
 .obtain⟨a,w,z,B⟩:=h.YO x H q l;grind
 .obtain⟨w,z,B⟩:=h.dH C m D G;exact⟨w,z,λq l=>B q (by rw[rq];grind)⟩
def JI.mem {wt':List dh} (h:JI T Q sb U n W wt par ty ar rep d) (z:∀p,p∈wt↔p∈wt'):JI T Q sb U n W wt' par ty ar rep d:=by
 have key:∀{x y},xu rep (LB _) x y->xu _ (LB _) x y:=λ{x y}=>xu.imp (λa b hab=> .wv hab) λq l=>by obtain⟨p,w,rfl⟩:=aC.1 l;exact .I5 (aC.2 ⟨p,(z p).1 w,rfl⟩)
 refine { h with wo:=λq l=>h.wo q ((z q).2 l),YO:=λx K q l=> ?_,seq:=λq l=>key (h.seq q l),dH:=λC m H I=> ?_ }
 .obtain⟨a,B,D,G⟩:=h.YO x K q l;grind
 .obtain⟨B,D,G⟩:=h.dH C m H I;refine⟨B,D,λq l=> ?_⟩;obtain⟨p,w,rfl⟩:=aC.1 l;exact G _ (aC.2 ⟨p,(z p).2 w,rfl⟩)
def JI.swap {p:dh} (h:JI T Q sb U n W (wt++[p]) par ty ar rep d):JI T Q sb U n W (wt++[⟨p.a1,p.a0⟩]) par ty ar rep d:=by
 have key:∀{x y},xu rep (LB (wt++[p])) x y->xu _ (LB (wt++[⟨p.a1,p.a0⟩])) x y:=λ{x y}=>xu.imp (λa b hab=> .wv hab) λq l=>by
  rw[rq] at l⊢;rcases bu.1 l with l|l
  .exact .I5 (by simp[l])
  .rw[bW] at l;subst l;exact xu.symm (xu.I5 (p:=(p.a1.toNat,p.a0.toNat)) ah)
 refine { h with wo:=λq l=> ?_,YO:=λx H q l=> ?_,seq:=λq l=>key (h.seq q l),dH:=λC m D G=> ?_ }
 .rcases bu.1 l with l|l
  .exact h.wo q (by simp[l])
  .have:=h.wo p ah;simp_all
 .obtain⟨a,w,z,B⟩:=h.YO x H q l;grind
 .obtain⟨w,z,B⟩:=h.dH C m D G;refine⟨w,z,λq l=> ?_⟩;rw[rq] at l;rcases bu.1 l with l|l
  .grind[rq]
  .rw[bW] at l;subst l;exact(B (p.a0.toNat,p.a1.toNat) (by rw[rq];simp)).symm
def JI.start {a b:Nat} (h:JI T Q sb U n W [] par ty ar rep d) (ha:a<n) (hb:b<n):JI T Q sb U n (W++[(a,b)]) [⟨a,b⟩] par ty ar rep d:=by
 have key:∀{x y},xu rep (LB []) x y->xu _ (LB [⟨(a),b⟩]) x y:=λ{x y}=>xu.imp (λa b hab=> .wv hab) λq l=>by cases l
 refine { h with wo:=λq l=> ?_,YO:=λx I q l=> ?_,seq:=λq l=> ?_,dH:=λC m G w=> ?_ }
 .simp_all
 .obtain⟨c,z,B,D⟩:=h.YO x I q l;grind
 .rcases bu.1 l with l|l
  .exact key (h.seq q l)
  grind[xu.I5,LB]
 .obtain⟨z,B,D⟩:=h.dH C m G { w with eq:=λp H=>w.eq p (by simp[H]) };refine⟨z,B,λq l=> ?_⟩;simp[LB,aR,dQ,bW] at l;subst l;exact w.eq _ ah
section
variable {p:dh} (h:JI T Q sb U n W (wt++[p]) par ty ar rep d) {a b:Nat} (ha:rep p.a0.toNat=a) (hb:rep p.a1.toNat=b) (hab:a≠b)
include h
theorem JI.pn:p.a0.toNat<n/\p.a1.toNat<n:=by have:=h.wo p ah;omega
include ha hb
theorem JI.rn:a<n/\b<n/\rep a=a/\rep b=b:=by obtain⟨l,q⟩:=h.pn;have w:=h.pi.rl _ l;have z:=h.pi.rl _ q;have B:=h.pi.rr _ l;have D:=h.pi.rr _ q;simp_all
theorem JI.meq {C:Gr} {m:Nat->Nat} (q:YQ C) (w:Sx sb U n W C m):m a=m b:=by obtain⟨z,B⟩:=h.pn;obtain⟨e1,_,l⟩:=h.dH C m q w;have:=l (p.a0.toNat,p.a1.toNat) (by rw[rq];simp);grind
theorem JI.no (D:∀c,sb (ty.getD a 0) c->sb (ty.getD b 0) c->False) (C:Gr) (m:Nat->Nat) (l:YQ C) (q:Sx sb U n W C m):False:=by obtain⟨z,G,B,H⟩:=h.rn ha hb;obtain⟨_,w,_⟩:=h.dH C m l q;refine D _ (w a z B).1 ?_;rw[h.meq ha hb l q];simp_all
include hab
theorem JI.merge (hQ:∀l,Q l->∀c∈l,0<=c.To/\c.To<(n:Int)) (hT:∀{a b c},sb a b->sb b c->sb a c) {r:List bX×List dh} (M:MG (ar.getD a []) (ar.getD b []) r) (w:Q r.1) {t:Int} (t0:0<=t/\t<(T:Int)) (t1:sb (ty.getD a 0) t) (t2:sb (ty.getD b 0) t) (t3:∀c,sb (ty.getD a 0) c->sb (ty.getD b 0) c->sb t c):
  JI T Q sb U n W (wt++r.2) (par.set b a) (ty.set a t) (ar.set a r.1) (λx=>if rep x=b then a else rep x) (λx=>if rep x=b then d x+d a+1 else d x):=by
 obtain⟨D,O,H,K⟩:=h.rn ha hb;have key:∀{x y},xu rep (LB (wt++[p])) x y->xu (λx=>if rep x=b then a else rep x) (LB (wt++r.2)) x y:=λ{x y}=>xu.imp (λu v P=> .wv (by show(if _ then _ else _)=if _ then _ else _;rw[P])) λq w=>by
  rw[rq] at w;rcases bu.1 w with w|w
  .exact .I5 (by unfold LB at *;rw[bJ];simp[w])
  .rw[bW] at w;subst w;refine .wv ?_;show(if _ then _ else _)=if _ then _ else _
   rw[ha,hb,aq hab,au rfl]
 have Qy:b<par.length:=by rw[h.pi.len];exact O
 have hne:∀x,rep x=b->x≠a:=λx e z=>hab (by rw[<-e,z,H])
 refine⟨⟨by rw[fK];exact h.pi.len,λx B=> ?_,λx B=> ?_,λx B=> ?_,λx B=> ?_⟩,by rw[fK];exact h.lt,by rw[fK];exact h.la,λx B=> ?_,λx B=> ?_,λq w=> ?_,λx B=> ?_,λx B q w=> ?_,λq w=>key (h.seq q w),λC m hC hs=> ?_⟩
 .by_cases e:b=x
  .subst e;refine⟨a,D,by rw[eF,au ⟨rfl,Qy⟩],?_, .inr ?_⟩
   .show(if _ then _ else _)=if _ then _ else _
    rw[H,K,aq hab,au rfl]
   .show(if _ then _ else _)<if _ then _ else _
    rw[H,K,aq hab,au rfl];omega
  .obtain⟨y,hy,g1,g2,g3⟩:=h.pi.up x B;refine⟨y,hy,by rw[eF,aq (λh=>e h.1)];exact g1,?_,?_⟩
   .show(if _ then _ else _)=if _ then _ else _
    rw[g2]
   .refine g3.imp id λg3=> ?_
    show(if _ then _ else _)<if _ then _ else _
    rw[g2];by_cases z:rep x=b
    .rw[au z,au z];omega
    .rw[aq z,aq z];exact g3
 .show _↔(if rep x=b then a else rep x)=x;by_cases e:b=x
  .subst e;rw[eF,au ⟨rfl,Qy⟩,au K];omega
  .rw[eF,aq (λh=>e h.1),h.pi.fix x B];by_cases z:rep x=b
   .rw[au z];have:=hne x z;omega
   .rw[aq z]
 .show(if _ then _ else _)<n;split
  .exact D
  .exact h.pi.rl x B
 .show(if rep (if rep x=b then a else rep x)=b then a else rep (if rep x=b then a else rep x))=if rep x=b then a else rep x
  by_cases z:rep x=b
  .rw[au z,H,aq hab]
  .rw[aq z,h.pi.rr x B,aq z]
 .rw[eF];split
  .exact t0
  .exact h.tr x B
 .rw[eF];split
  .exact w
  .exact h.ao x B
 .rcases bu.1 w with w|w
  .exact h.wo q (by simp[w])
  .obtain⟨u,hu,v,hv,_,rfl⟩:=M.pair q w;exact⟨hQ _ (h.ao a D) u hu,hQ _ (h.ao b O) v hv⟩
 .have V:=h.sty x B;show sb _ ((ty.set a t).getD (if rep x=b then a else rep x) 0);have G:a<ty.length:=by rw[h.lt];exact D
  by_cases z:rep x=b
  .rw[au z,eF,au ⟨rfl,G⟩];rw[z] at V;exact hT V t2
  .rw[aq z];by_cases I:a=rep x
   .rw[<-I,eF,au ⟨rfl,G⟩];rw[<-I] at V;exact hT V t1
   .rw[eF,aq (λh=>I h.1)];exact V
 .obtain⟨c,N,S,h3⟩:=h.YO x B q w;have G:a<ar.length:=by rw[h.la];exact D
  show∃c∈(ar.set a _).getD (if rep x=b then a else rep x) [],_;by_cases z:rep x=b
  .rw[au z,eF,au ⟨rfl,G⟩];rw[z] at N;obtain⟨c',m1,m2,m3⟩:=M.right c N;refine⟨c',m1,by rw[m2,S],?_⟩;rcases m3 with rfl|m3
   .exact key h3
   .refine(key h3).trans (xu.symm (xu.I5 (p:=(c'.To.toNat,c.To.toNat)) ?_));unfold LB;rw[bJ];exact fL _ (aC.2 ⟨_,m3,rfl⟩)
  .rw[aq z];by_cases I:a=rep x
   .rw[<-I,eF,au ⟨rfl,G⟩];rw[<-I] at N;exact⟨c,M.left c N,S,key h3⟩
   .rw[eF,aq (λh=>I h.1)];exact⟨c,N,S,key h3⟩
 .obtain⟨e1,z,I⟩:=h.dH C m hC hs;have hm:=h.meq ha hb hC hs;have G:a<ar.length:=by rw[h.la];exact D
  have hal':a<ty.length:=by rw[h.lt];exact D
  obtain⟨a1,a2⟩:=z a D H;obtain⟨b1,b2⟩:=z b O K;rw[<-hm] at b1 b2;refine⟨λx B=> ?_,λx B L=> ?_,λq w=> ?_⟩
  .show m (if rep x=b then a else rep x)=m x;by_cases e:rep x=b
   .rw[au e,hm,<-e,e1 x B]
   .rw[aq e,e1 x B]
  .have L:(if rep x=b then a else rep x)=x:=L;by_cases e:rep x=b
   .rw[au e] at L;exact absurd L.symm (hne x e)
   .rw[aq e] at L;by_cases e4:a=x
    .subst e4;rw[eF,au ⟨rfl,hal'⟩,eF,au ⟨rfl,G⟩];exact⟨t3 _ a1 b1,λc hc=>(M.sub c hc).elim (a2 c) (b2 c)⟩
    .rw[eF,aq (λh=>e4 h.1),eF,aq (λh=>e4 h.1)];exact z x B L
  .unfold LB at w;rw[bJ] at w;rcases bu.1 w with w|w
   .exact I q (by rw[rq];exact dU _ w)
   .obtain⟨r',L,rfl⟩:=aC.1 w;obtain⟨u,hu,v,hv,P,rfl⟩:=M.pair r' L;have N:=a2 u hu;have S:=b2 v hv;rw[<-P] at S;exact(hC _).Kt N S
theorem K2:cnt n (λx=>if rep x=b then a else rep x)+1<=cnt n rep:=by
 obtain⟨q,l,w,z⟩:=h.rn ha hb;have e:(List.range n).filter (λx=>(if rep x=b then a else rep x)==x)=((List.range n).filter λx=>rep x==x).filter λx=>x !=b:=by
  rw[CO];refine qN λx _=> ?_
  by_cases B:rep x=b<;>grind
 unfold cnt;rw[e];exact List.length_filter_lt_length_iff_exists.2 ⟨b,cG.2 ⟨eH.2 l,by simp_all⟩,ah⟩
end
end
def h443 {h:bQ} {T F n:Nat} {sb:Int->Int->Prop} (H:HM h T sb) {U:Gr} {W:List (Nat×Nat)} {o:List dh} (hF:F<=1000000):∀(c k:Nat) (wt:List dh) (par ty:List Int) (ar:List (List bX)) (rep d:Nat->Nat),
  cnt n rep<=c->wt.length<=k->wt.length+cnt n rep *F<=500000000->JI T (AO F n) sb U n W wt par ty ar rep d->
  (∃q z w D d',yD wt o h.Types h.cD par ty ar=some (true,q,z,w)/\JI T (AO F n) sb U n W [] q z w D d')\/
  ((∃q z w,yD wt o h.Types h.cD par ty ar=some (false,q,z,w))/\∀C m,YQ C->Sx sb U n W C m->False):=by
 intro c;induction c using Nat.strongRecOn with
 |ind c ihc=>
 intro k;induction k with
 |zero=>intro wt par ty ar rep d hc hk hb J;have e:wt=[]:=oI.1 af;subst e;exact .inl ⟨par,ty,ar,rep,d,TW (by rw[cond_neg (by rfl)]),J⟩
 |succ k ihk=>
  intro wt par ty ar rep d hc hk hb J;rcases List.eq_nil_or_concat wt with rfl|⟨I,p,rfl⟩
  .exact .inl ⟨par,ty,ar,rep,d,TW (by rw[cond_neg (by rfl)]),J⟩
  .rw[List.concat_eq_append] at *;have hl:(I++[p]).length=I.length+1:=ah;rw[hl] at hk hb;obtain⟨⟨p1,p2⟩,p3,p4⟩:=J.wo p ah;obtain⟨B,hx0⟩:=eL p1;obtain⟨x1,hx1⟩:=eL p3;have hx0n:B<n:=af;have hx1n:x1<n:=af;have r0:p.a0.toNat=B:=af;have r1:p.a1.toNat=x1:=af;obtain⟨pa,f1,P1⟩:=c485 (TL:=h.Types) (FL:=h.cD) (ty:=ty) (ar:=ar) hx0n J.pi;obtain⟨O,f2,P2⟩:=c485 (TL:=h.Types) (FL:=h.cD) (ty:=ty) (ar:=ar) hx1n P1;have J2:=J.rL P2;have hgN:∀{R:Type} (k:dh->Option R),dY (I++[p]) I.length k=k p:=λk=>gE ah k
   have step:∀(r:Bool×List Int×List Int×List (List bX)),(bif(((rep B:Nat):Int) !=((rep x1:Nat):Int)) then(
     Ft (f486 ((rep B:Nat):Int) ((rep x1:Nat):Int) h.Types h.cD I O ty ar) λy215 w218 P S V=>bif(!y215) then some (false,P,S,V) else yD w218 o h.Types h.cD P S V)
     else yD I o h.Types h.cD O ty ar)=some r->yD (I++[p]) o h.Types h.cD par ty ar=some r:=by
    intro r hr;refine TW ?_;rw[hl,cond_pos (by rw[bF];omega),xq af,uK af,aP,hgN,bh ⟨af,af⟩,hx0,f1,gy,hx1,f2,gy,List.take_left' rfl];exact hr
   by_cases L:rep B=rep x1
   .have J3:=J2.skip (by rw[r0,r1];exact L);rcases ihk I O ty ar rep d hc af af J3 with⟨q,z,w,D,d',g1,g2⟩|⟨⟨q,z,w,g1⟩,g2⟩
    .exact .inl ⟨q,z,w,D,d',step _ (by rw[cond_neg (by rw[L];simp)];exact g1),g2⟩
    .exact .inr ⟨⟨q,z,w,step _ (by rw[cond_neg (by rw[L];simp)];exact g1)⟩,g2⟩
   .have ha:rep p.a0.toNat=rep B:=by rw[r0]
    have N:rep p.a1.toNat=rep x1:=by rw[r1]
    obtain⟨K,G,hra,hrb⟩:=J2.rn ha N;have hal:rep B<ar.length:=by rw[J.la];exact K
    have XS:rep x1<ar.length:=by rw[J.la];exact G
    have hat:rep B<ty.length:=by rw[J.lt];exact K
    have hbt:rep x1<ty.length:=by rw[J.lt];exact G
    have hbp:rep x1<O.length:=by rw[P2.len];exact G
    have hb1:(((rep B:Nat):Int) !=((rep x1:Nat):Int))=true:=by rw[jW];omega
    have ta:=J.tr _ K;have tb:=J.tr _ G;rcases H.mt _ _ ta.1 ta.2 tb.1 tb.2 with⟨t,m1,m2,m3,m4,m5⟩|⟨t,m1,m2,m3⟩
    .have la:=(J.ao _ K).len;have lb:=(J.ao _ G).len;have M:=FN _ (ar.getD (rep B) []) (ar.getD (rep x1) []) (aT _);have J3:=J2.merge ha N L (λl hl c hc=>(hl.ok c hc).2) (λh1 h2=>H.to.trans h1 h2) M ((J.ao _ K).mg (J.ao _ G)) (H.to.rr m3) m3 m4 m5;have hcm:=K2 J2 ha N L;have f3:f486 ((rep B:Nat):Int) ((rep x1:Nat):Int) h.Types h.cD I O ty ar=some (true,I++(mg (ar.getD (rep B) []) (ar.getD (rep x1) [])).2,O.set (rep x1) ((rep B:Nat):Int),ty.set (rep B) t,ar.set (rep B) (mg (ar.getD (rep B) []) (ar.getD (rep x1) [])).1):=by
      refine e486 ?_;rw[qF hat,qF hbt];rw[show(bQ.mk h.Types h.cD)=h from rfl,m1,ak,cond_neg (by rfl),qF hbp,qF hat,YN hal,YN XS,aP,aP,h486 hal _ _ _ _ _ (aT _) (by simp only[ek];omega) af,dw]
     have hmul:(cnt n (λx=>if rep x=rep x1 then rep B else rep x)+1) *F<=cnt n rep *F:=jx F hcm;rw[sN] at hmul;have hml:=M.le;rcases ihc _ (eM (Nat.lt_of_succ_le hcm) hc) (I++(mg (ar.getD (rep B) []) (ar.getD (rep x1) [])).2).length _ _ _ _ _ _ (aT _) (aT _) (by rw[cR];omega) J3 with⟨q,z,w,D,d',g1,g2⟩|⟨⟨q,z,w,g1⟩,g2⟩
     .exact .inl ⟨q,z,w,D,d',step _ (by rw[cond_pos hb1,f3,rX,cond_neg (by rfl)];exact g1),g2⟩
     .exact .inr ⟨⟨q,z,w,step _ (by rw[cond_pos hb1,f3,rX,cond_neg (by rfl)];exact g1)⟩,g2⟩
    .have f3:f486 ((rep B:Nat):Int) ((rep x1:Nat):Int) h.Types h.cD I O ty ar=some (false,I,O,ty,ar):=by
      refine e486 ?_;rw[qF hat,qF hbt];rw[show(bQ.mk h.Types h.cD)=h from rfl,m1,ak,cond_pos (by rfl)]
     exact .inr ⟨⟨_,_,_,step _ (by rw[cond_pos hb1,f3,rX,cond_pos (by rfl)])⟩,J2.no ha N m3⟩
def Zz (n:Nat) (rep:Nat->Nat):cnt n rep<=n:=by grind[cnt]
def c443 {h:bQ} {T F n:Nat} {sb:Int->Int->Prop} (H:HM h T sb) {U:Gr} {W:List (Nat×Nat)} (hF:F<=1000000) {par ty:List Int} {ar:List (List bX)} {rep d:Nat->Nat} {a b:Nat} (ha:a<n) (hb:b<n) (hn:n *F<=400000000) (J:JI T (AO F n) sb U n W [] par ty ar rep d):
  (∃l w q z B,f443 (a:Int) (b:Int) h.Types h.cD par ty ar=some (true,l,w,q)/\JI T (AO F n) sb U n (W++[(a,b)]) [] l w q z B)\/
  ((∃l w q,f443 (a:Int) (b:Int) h.Types h.cD par ty ar=some (false,l,w,q))/\∀C m,YQ C->Sx sb U n (W++[(a,b)]) C m->False):=by
 have I:cnt n rep *F<=n *F:=jx F (Zz n _);rcases h443 H (o:=[]) hF _ 1 _ _ _ _ _ d (aT _) ah (by grind) (J.start ha hb) with⟨l,w,q,z,B,D,G⟩|⟨⟨l,w,q,D⟩,G⟩
 .grind[e443]
 simp_all[e443]
def lq (ty:List Int) (ar:List (List bX)) (rep:Nat->Nat):Gr:=⟨λx=>(ar.getD x []).map λa=>(a.aS,rep a.To.toNat),λx=>ty.getD x 0⟩
def JI.uni {T F n:Nat} {sb:Int->Int->Prop} {U:Gr} {W:List (Nat×Nat)} {par ty:List Int} {ar:List (List bX)} {rep d:Nat->Nat} (J:JI T (AO F n) sb U n W [] par ty ar rep d) (K:Bd U.sc n):Uni T F sb U n W (lq ty ar rep) rep:=by
 refine⟨⟨λx l p q=> ?_,λx l=> ?_,λx l p q=> ?_,λx l=>J.tr x l⟩,J.pi.rl,J.pi.rr,λx l p q=> ?_,⟨J.sty,λx l p q=> ?_,λp q=>(J.seq p q).done⟩,λC m H I x l=> ?_⟩
 .obtain⟨a,ha,rfl⟩:=aC.1 q;exact J.pi.rl _ (by have:=((J.ao x l).ok a ha).2;omega)
 .show y7 (List.map _ _);unfold y7;rw[gT];exact(J.ao x l).x8
 .obtain⟨a,ha,rfl⟩:=aC.1 q;exact((J.ao x l).ok a ha).1
 .obtain⟨a,ha,rfl⟩:=aC.1 q;exact J.pi.rr _ (by have:=((J.ao x l).ok a ha).2;omega)
 .obtain⟨a,ha,D,G⟩:=J.YO x l p q;refine aC.2 ⟨a,ha,?_⟩;rw[D,G.done]
 .obtain⟨e1,B,_⟩:=J.dH C m H I;obtain⟨w,z⟩:=B (rep x) (J.pi.rl x l) (J.pi.rr x l);rw[e1 x l] at w z;refine⟨e1 x l,w,λp q=> ?_⟩;obtain⟨a,ha,rfl⟩:=aC.1 q;show(a.aS,m (rep a.To.toNat))∈_;rw[e1 _ (by have:=((J.ao _ (J.pi.rl x l)).ok a ha).2;omega)];exact z a ha
end Go.Proofs.YthppjmoncapdfaaGreatDoor.cl.pf
namespace Go.Proofs.YthppjmoncapdfaaGreatDoor.cl.pf
open Go Go.AM
def Nh (G:Gr) (o:List Nat) (y:Nat):Node:=⟨G.ty y,(G.sc y).map λp=>⟨p.1,(o.idxOf p.2:Nat)⟩⟩
def MO {o l:List Nat} (h:o<+:l) {x:Nat} (q:x∈o):l.idxOf x=o.idxOf x:=by obtain⟨t,rfl⟩:=h;rw[qW,au q]
def ndO_pre {G:Gr} {o l:List Nat} (h:o<+:l) {y:Nat} (w:∀p∈G.sc y,p.2∈o):Nh G o y=Nh G l y:=by unfold Nh;congr 1;exact gR λp q=>by rw[MO h (w p q)]
structure NO (n:Nat) (num:List Int) (o:List Nat):Prop where
 len:num.length=n
 at_:∀x,x<n->num.getD x 0=if x∈o then(o.idxOf x:Int) else-1
def NO.snoc {n:Nat} {num:List Int} {o:List Nat} (h:NO n num o) {y:Nat} (z:y<n) (q:y∉o):NO n (num.set y (o.length:Int)) (o++[y]):=by
 refine⟨by rw[fK];exact h.len,λx w=> ?_⟩;rw[eF];by_cases e:y=x
 .subst e;rw[au ⟨rfl,by rw[h.len];exact z⟩,au ah,qW,aq q];simp
 .rw[aq (λh=>e h.1),h.at_ x w];by_cases l:x∈o
  .rw[au l,au (by simp[l]),qW,au l]
  .rw[aq l,aq (by simp[l];exact λh=>e h.symm)]
section
variable {T F n:Nat} {TL:List gK} {FL:List c4} {ty:List Int} {ar:List (List bX)} {rep d:Nat->Nat}
variable (la:ar.length=n) (lt:ty.length=n) (hao:∀x,x<n->AO F n (ar.getD x [])) (hrl:∀x,x<n->rep x<n) (hrr:∀x,x<n->rep (rep x)=rep x) (hF:F<=1000000) (hn:n<=1000000)
include hao hrl in
theorem Zx:Bd (lq ty ar rep).sc n:=λx q p l=>by obtain⟨a,ha,rfl⟩:=aC.1 l;exact hrl _ (by have:=((hao x q).ok a ha).2;omega)
def VisR (n:Nat) (G:Gr) (rep d:Nat->Nat) (ty:List Int) (ar:List (List bX)) (res:Option (Int×List Int×List Node×List Int×List Int×List (List bX))) (w:Nat) (o z:List Nat) (out:List Node):Prop:=
 ∃l q,res=some ((w:Int),l,out++(z.drop o.length).map (Nh G z),q,ty,ar)/\NO n l z/\PI n q rep d
include la lt hao hrl hF hn
theorem h487_9 {k:Nat} {o:List Nat} {y:Nat} {out:List Node} (hy:y<n) (hyo:y∉o) (N:out.length=o.length)
  (ih:∀(x:Nat) (o:List Nat) (num:List Int) (out:List Node) (par:List Int),x<n->NO n num o->PI n par rep d->Met n o->n<k+o.length->out.length=o.length->
   VisR n (lq ty ar rep) rep d ty ar (f487 (x:Int) TL FL num out par ty ar) ((nV (lq ty ar rep).sc k (rep x) o).idxOf (rep x)) o (nV (lq ty ar rep).sc k (rep x) o) out):
  ∀(l:List bX) (i:Nat) (q:List Nat) (num par:List Int),(ar.getD y []).drop i=l->NO n num q->PI n par rep d->Met n q->o++[y]<+:q->n<k+q.length->
   (∀z∈q.drop (o.length+1),∀p∈(lq ty ar rep).sc z,p.2∈q)->(∀a∈(ar.getD y []).take i,rep a.To.toNat∈q)->
   ∃B D,O8 (o.length:Int) (ar.getD y []) ((ar.getD y []).length:Int) (i:Int) (((ar.getD y []).take i).map λa=>⟨a.aS,(q.idxOf (rep a.To.toNat):Nat)⟩) TL FL num ((out++[⟨ty.getD y 0,[]⟩])++(q.drop (o.length+1)).map (Nh (lq ty ar rep) q)) par ty ar=
    some ((o.length:Int),B,(out++[Nh (lq ty ar rep) (rN (lq ty ar rep).sc k (l.map λa=>(a.aS,rep a.To.toNat)) q) y])++((rN (lq ty ar rep).sc k (l.map λa=>(a.aS,rep a.To.toNat)) q).drop (o.length+1)).map (Nh (lq ty ar rep) (rN (lq ty ar rep).sc k (l.map λa=>(a.aS,rep a.To.toNat)) q)),D,ty,ar)/\
    NO n B (rN (lq ty ar rep).sc k (l.map λa=>(a.aS,rep a.To.toNat)) q)/\PI n D rep d:=by
 have hB:Bd (lq ty ar rep).sc n:=Zx hao hrl;have hal:=(hao y hy).len;intro l;induction l with
 |nil=>intro i q num par H hN hP hM I hk P G;refine⟨num,par,ab0 ?_,hN,hP⟩;rw[bp H,az,uK aD,aP,gE (x:=⟨ty.getD y 0,[]⟩) (by rw[dA aD,fW af,N];simp)];have e1:(ar.getD y []).take i=ar.getD y []:=gx (iF H);rw[e1];simp only[dQ,rN,List.foldl_nil];congr 4;rw[CG _ _ aD,mN _ _ af,N,mR,qX];congr 3;unfold Nh lq;simp only[eS];rfl
 |cons a l ih2=>
  intro i q num par H hN hP hM I hk P G;have ha:a∈ar.getD y []:=aH (bB H);have hok:=((hao y hy).ok a ha).2;obtain⟨x,hx⟩:=eL hok.1;have S:x<n:=af;have K:a.To.toNat=x:=af;have hol:o.length+1<=q.length:=by have:=I.length_le;simpa using this
  obtain⟨B,D,f1,N1,P1⟩:=ih x q num ((out++[⟨ty.getD y 0,[]⟩])++(q.drop (o.length+1)).map (Nh (lq ty ar rep) q)) par S hN hP hM hk aD;have w:=Ek (sc:=(lq ty ar rep).sc) k (rep x) q;have V:=yI hB k (rep x) q hM (hrl x S);obtain⟨c1,c2⟩:=yH hB k (rep x) q hM (hrl x S) hk;have hlen2:=w.length_le
  obtain⟨num2,par2,g1,g2,g3⟩:=ih2 (i+1) (nV (lq ty ar rep).sc k (rep x) q) B D (aG H) N1 P1 V (I.trans w) af (λz L p hp=>by
    by_cases h2:z∈q.drop (o.length+1)
    .exact w.subset (P z h2 p hp)
    .by_cases h3:z∈q
     .obtain⟨t,ht⟩:=w;rw[<-ht,tY hol] at L;rcases bu.1 L with L|L
      .exact absurd L h2
      .have:=V.nd;rw[<-ht,gV] at this;exact absurd rfl (this.2.2 z h3 z L)
     .exact c2 z (uE L) h3 p hp) (λb hb=>by
    rw[cg] at hb;rcases bu.1 hb with hb|hb
    .exact w.subset (G b hb)
    .rw[bB H] at hb;simp at hb;subst hb
     rw[K];exact c1)
  refine⟨num2,par2,ab0 ?_,?_,g3⟩
  .have hcat:(out++[⟨ty.getD y 0,[]⟩])++(q.drop (o.length+1)).map (Nh (lq ty ar rep) q)++((nV (lq ty ar rep).sc k (rep x) q).drop q.length).map (Nh (lq ty ar rep) (nV (lq ty ar rep).sc k (rep x) q))=
     (out++[⟨ty.getD y 0,[]⟩])++((nV (lq ty ar rep).sc k (rep x) q).drop (o.length+1)).map (Nh (lq ty ar rep) (nV (lq ty ar rep).sc k (rep x) q)):=by
    rw[eO];refine aJ (λz=>(out++[(⟨ty.getD y 0,[]⟩:Node)])++z) ?_;have e1:(q.drop (o.length+1)).map (Nh (lq ty ar rep) q)=(q.drop (o.length+1)).map (Nh (lq ty ar rep) (nV (lq ty ar rep).sc k (rep x) q)):=
     gR λz L=>ndO_pre w (P z L)
    rw[e1,<-bJ];refine aJ (List.map _) ?_;obtain⟨t,ht⟩:=w;rw[<-ht,List.drop_left,tY hol]
   have O:(((ar.getD y []).take i).map λa=>(⟨a.aS,(q.idxOf (rep a.To.toNat):Nat)⟩:bX))++[⟨a.aS,((nV (lq ty ar rep).sc k (rep x) q).idxOf (rep x):Nat)⟩]=
     ((ar.getD y []).take (i+1)).map λa=>(⟨a.aS,((nV (lq ty ar rep).sc k (rep x) q).idxOf (rep a.To.toNat):Nat)⟩:bX):=by
    rw[cg,bB H,bJ];rw[gR (g:=λa=>(⟨a.aS,((nV (lq ty ar rep).sc k (rep x) q).idxOf (rep a.To.toNat):Nat)⟩:bX)) λb hb=>by rw[MO w (G b hb)]];simp[K]
   have hlt:=c7 H;rw[aZ H,ai,aQ H,hx,f1,HC,bT _ (by rw[aU,fF];omega) ah af,aY H af,hcat];have:=O;rw[this,g1];simp only[aR,rN,fB,K]
  .simp only[aR,rN,fB,K];exact g2
include hrr in
theorem h487:∀(k x:Nat) (o:List Nat) (num:List Int) (out:List Node) (par:List Int),x<n->NO n num o->PI n par rep d->Met n o->n<k+o.length->out.length=o.length->
  VisR n (lq ty ar rep) rep d ty ar (f487 (x:Int) TL FL num out par ty ar) ((nV (lq ty ar rep).sc k (rep x) o).idxOf (rep x)) o (nV (lq ty ar rep).sc k (rep x) o) out:=by
 have hB:Bd (lq ty ar rep).sc n:=Zx hao hrl;intro k;induction k with
 |zero=>intro x o num out par hx I hP K hk _;have:=vI K.nd K.lt;omega
 |succ k ih=>
  intro x o num out par hx I hP K hk B;obtain⟨H,f1,P1⟩:=c485 (TL:=TL) (FL:=FL) (ty:=ty) (ar:=ar) hx hP;have w:=hrl x hx;have q:rep x<num.length:=by rw[I.len];exact w
  have htl:rep x<ty.length:=by rw[lt];exact w
  have hal:rep x<ar.length:=by rw[la];exact w
  have hol:=vI K.nd K.lt;by_cases l:rep x∈o
  .have P:nV (lq ty ar rep).sc (k+1) (rep x) o=o:=by rw[nV,au l]
   rw[P];refine⟨num,H,e487 ?_,I,P1⟩;rw[f1,gy,qF q,I.at_ _ w,au l,cond_pos (by rw[bF];omega),qF q,I.at_ _ w,au l];simp
  .have P:nV (lq ty ar rep).sc (k+1) (rep x) o=rN (lq ty ar rep).sc k ((ar.getD (rep x) []).map λa=>(a.aS,rep a.To.toNat)) (o++[rep x]):=by rw[nV,aq l];rfl
   have V:=K.snoc w l;obtain⟨N,O,S,g2,g3⟩:=h487_9 (TL:=TL) (FL:=FL) (d:=d) la lt hao hrl hF hn w l B ih (ar.getD (rep x) []) 0 (o++[rep x]) (num.set (rep x) (o.length:Int)) H rfl (I.snoc w l) P1 V (mQ _) (by simp only[cR,jX];omega)
    (λz hz=>by rw[mS ah] at hz;cases hz) (λb hb=>by cases hb)
   rw[P];have D:=Av (sc:=(lq ty ar rep).sc) k ((ar.getD (rep x) []).map λa=>(a.aS,rep a.To.toNat)) (o++[rep x]);generalize rN (lq ty ar rep).sc k ((ar.getD (rep x) []).map λa=>(a.aS,rep a.To.toNat)) (o++[rep x])=G at *;have hat:G.idxOf (rep x)=o.length:=by rw[MO D ah,qW,aq l];simp
   refine⟨N,O,e487 ?_,g2,g3⟩;rw[f1,gy,qF q,I.at_ _ w,aq l,cond_neg (by rfl),qF q,qF htl,bT _ af ah af,YN hal,aP,B,hat];rw[mS ah,dQ,eW,List.take_zero,dQ] at S;have e0:((0:Nat):Int)=0:=rfl;rw[e0] at S;rw[S];have L:(out++[Nh (lq ty ar rep) G (rep x)])++(G.drop (o.length+1)).map (Nh (lq ty ar rep) G)=out++(G.drop o.length).map (Nh (lq ty ar rep) G):=by
    have e2:G.drop o.length=rep x::G.drop (o.length+1):=by obtain⟨t,ht⟩:=D;rw[<-ht,eO,List.drop_left,<-eO,tY ah,mS ah];rfl
    rw[e2,aR,eO];rfl
   rw[L]
theorem h444 {root:Nat} {f0:FSt} {o5:List Int} {res:FSt×List Int×List Int×List (List bX)} {par:List Int}:∀(k i:Nat),n=i+k->
  (PB (f487 (root:Int) TL FL (replicate n (-1)) ([]:List Node) par ty ar) λG D l q w z=>some ((FSt.mk l),q,w,z))=some res->
  OX (root:Int) (n:Int) (i:Int) f0 (replicate i (-1)++replicate k 0) o5 TL FL par ty ar=some res:=by
 intro k;induction k with
 |zero=>
  intro i H B;refine abL ?_
  have:i=n:=af
  subst this;rw[cond_neg (by rw[bM];omega),CV,eW];exact B
 |succ k K=>
  intro i H B;refine abL ?_;have I:i<(replicate i (-1:Int)++replicate (k+1) 0).length:=ah;rw[cond_pos (by rw[bF];omega),qF I,aP,bl af];have e:(replicate i (-1:Int)++replicate (k+1) 0).set i (-1)=replicate (i+1) (-1)++replicate k 0:=by rw[mN _ _ ah,jY,mR,vq,qX,mX];simp
  rw[e];exact K (i+1) af B
include hrr in
theorem c444 {root:Nat} {par:List Int} (z:root<n) (P:PI n par rep d):∃l,f444 (root:Int) TL FL par ty ar=some (lK (lq ty ar rep) n (rep root),l,ty,ar):=by
 have w:NO n (replicate n (-1)) []:=⟨ah,λx B=>by rw[aq ah,aX,jm,au B];rfl⟩
 obtain⟨q,l,f1,_,_⟩:=h487 (TL:=TL) (FL:=FL) (d:=d) la lt hao hrl hrr hF hn (n+1) root [] (replicate n (-1)) [] par z w P Met.nil ah rfl;refine⟨l,e444 ?_⟩;rw[bh ⟨af,by omega,by rw[P.len];omega,by rw[P.len];omega⟩,P.len,aP,jY];have:=h444 (TL:=TL) (FL:=FL) (root:=root) (f0:=⟨[]⟩) (o5:=[]) (par:=par) la lt hao hrl hF hn n 0 af (by rw[f1,HC]);rw[CV,dw] at this;exact this
end
