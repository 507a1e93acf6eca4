/- Unification by classes (the program's). -/
import Derived.Test.YthphfjcnkinkpaaGreatDoorClXc
import Derived.Test.YthphfjcnkinkpaaGreatDoorClSh
set_option linter.all false
open Int (toNat)
open List (length replicate)
namespace Go.Proofs.YthphfjcnkinkpaaGreatDoor.cl.pf
open Go Go.AM
section
variable {R:Type}
theorem qE {l:List Int} {i:Nat} (h:i<l.length) (k:Int->Option R):check (0<=(i:Int)/\toNat (i:Int)<l.length) (dO l (toNat (i:Int)) k)=k (l.getD i 0):=by simp_all[bT,Xs]
def rdL {q:Type} {l:List (List q)} {i:Nat} (h:i<l.length) (k:List q->Option R):check (0<=(i:Int)/\toNat (i:Int)<l.length) (dO l (toNat (i:Int)) k)=k (l.getD i []):=by simp_all[bT,Xs]
def Ay {l:Nat} {i:Nat} (h:i<l) (a:Option R):check (0<=(i:Int)/\toNat (i:Int)<l) a=a:=bT ⟨af,af⟩ a
theorem cF {l q w z:Type} (a:l) (b:q) (c:w) (d:z) (k:l->q->w->z->Option R):mJ (some (a,b,c,d)) k=k a b c d:=rfl
def zB {l q w z B:Type} (a:l) (b:q) (c:w) (d:z) (e:B) (k:l->q->w->z->B->Option R):Js (some (a,b,c,d,e)) k=k a b c d e:=rfl
def Jt {l q w z B D:Type} (a:l) (b:q) (c:w) (d:z) (e:B) (g:D) (k:l->q->w->z->B->D->Option R):RN (some (a,b,c,d,e,g)) k=k a b c d e g:=rfl
end
def eF {q:Type} (l:List q) (i j:Nat) (v d:q):(l.set i v).getD j d=if i=j/\j<l.length then v else l.getD j d:=by grind
structure PI (n:Nat) (par:List Int) (rep d:Nat->Nat):Prop where
 len:par.length=n
 up:∀x,x<n->∃y,y<n/\par.getD x 0=(y:Int)/\rep y=rep x/\(y=x\/d y<d x)
 fix:∀x,x<n->(par.getD x 0=(x:Int)↔rep x=x)
 rl:∀x,x<n->rep x<n
 rr:∀x,x<n->rep (rep x)=rep x
section
variable {n:Nat} {rep d:Nat->Nat} {TL:List fM} {FL:List cW} {ty:List Int} {ar:List (List cz)}
def h485:∀(k x:Nat) (par:List Int),d x<=k->x<n->PI n par rep d->∃q,LC (x:Int) TL FL par ty ar=some (((rep x:Nat):Int),q,ty,ar)/\PI n q rep d:=by intro k;induction k with
 |zero=>
  intro x par hk D P;obtain⟨y,O,B,K,h3⟩:=P.up x D;have l:x<par.length:=by rw[P.len];exact D
  have e:y=x:=af;subst e;refine⟨par,VK ?_,P⟩;rw[qE l,B,cond_neg ai,(P.fix y D).1 B]
 |succ k ih=>
  intro x par hk D P;obtain⟨y,O,B,K,h3⟩:=P.up x D;have l:x<par.length:=by rw[P.len];exact D
  have S:y<par.length:=by rw[P.len];exact O
  by_cases e:y=x
  .subst e;refine⟨par,VK ?_,P⟩;rw[qE l,B,cond_neg ai,(P.fix y D).1 B]
  .have h3:d y<d x:=af;obtain⟨z,hz,g1,V,g3⟩:=P.up y O;have H:d z<d x:=by rcases g3 with rfl|g3<;>omega
   have P':PI n (par.set x z) rep d:=by
    refine⟨by rw[gV];exact P.len,λw N=> ?_,λw N=> ?_,P.rl,P.rr⟩
    .by_cases G:x=w
     .subst G;exact⟨z,hz,by rw[eF,aB ⟨rfl,l⟩],by rw[V,K], .inr H⟩
     .obtain⟨v,L⟩:=P.up w N;exact⟨v,L.1,by rw[eF,az (λh=>G h.1)];exact L.2.1,L.2.2⟩
    .by_cases G:x=w
     .subst G;rw[eF,aB ⟨rfl,l⟩];have hxz:z≠x:=λe=>by rw[e] at H;omega
      have:=P.fix x D;rw[B] at this;constructor
      .intro h;omega
      .intro h;have:=this.2 h;omega
     .rw[eF,az (λh=>G h.1)];exact P.fix w N
   obtain⟨q,r1,r2⟩:=ih z (par.set x z) af hz P';refine⟨q,VK ?_,r2⟩;rw[qE l,B,cond_pos aI,qE l,B,qE S,g1,qE l,aT];have hs:x<(par.set x (z:Int)).length:=by rw[gV];exact l
   have h0:=qE hs (λI=>LC I TL FL (par.set x (z:Int)) ty ar);rw[aT] at h0;rw[h0,eF,aB ⟨rfl,l⟩,r1,V,K]
def c485 {x:Nat} {par:List Int} (z:x<n) (P:PI n par rep d):∃l,f485 (x:Int) TL FL par ty ar=some (((rep x:Nat):Int),l,ty,ar)/\PI n l rep d:=by obtain⟨l,q,w⟩:=h485 (TL:=TL) (FL:=FL) (ty:=ty) (ar:=ar) (d x) x par (aZ _) z P;exact⟨l,e485 q,w⟩
end
def mg:List cz->List cz->List cz×List dD
 |[],l=>(l,[])
 |x::xs,[]=>(x::xs,[])
 |x::xs,y::l=>
  if x.bw<y.bw then(x::(mg xs (y::l)).1,(mg xs (y::l)).2)
  else if y.bw<x.bw then(y::(mg (x::xs) l).1,(mg (x::xs) l).2)
  else(x::(mg xs l).1,⟨x.To,y.To⟩::(mg xs l).2)
 termination_by x y=>x.length+y.length
theorem Gg (l:List cz):mg [] l=(l,[]):=by rw[mg]
def IJ (xs:List cz):mg xs []=(xs,[]):=by cases xs<;>rw[mg]
def adw {x y:cz} (xs l:List cz) (h:x.bw<y.bw):mg (x::xs) (y::l)=(x::(mg xs (y::l)).1,(mg xs (y::l)).2):=by rw[mg,aB h]
def adv {x y:cz} (xs l:List cz) (h:y.bw<x.bw):mg (x::xs) (y::l)=(y::(mg (x::xs) l).1,(mg (x::xs) l).2):=by rw[mg,az af,aB h]
def adu {x y:cz} (xs l:List cz) (h:x.bw=y.bw):mg (x::xs) (y::l)=(x::(mg xs l).1,⟨x.To,y.To⟩::(mg xs l).2):=by rw[mg,az af,az af]
structure MG (x y:List cz) (r:List cz×List dD):Prop where
 sub:∀a∈r.1,a∈x\/a∈y
 left:∀a∈x,a∈r.1
 right:∀a∈y,∃b∈r.1,b.bw=a.bw/\(b=a\/⟨b.To,a.To⟩∈r.2)
 pair:∀p∈r.2,∃a∈x,∃b∈y,a.bw=b.bw/\p=⟨a.To,b.To⟩
 le:r.2.length<=y.length
def HR (l:List cz):Prop:=l.Pairwise λp q=>p.bw<q.bw
def Hp:∀(k:Nat) (x y:List cz),x.length+y.length<=k->MG x y (mg x y)
 |_,[],y,_=>by rw[Gg];exact⟨λa h=> .inr h,λa h=>by(cases h),λa h=>⟨a,h,rfl, .inl rfl⟩,λp h=>by(cases h),cZ _⟩
 |_,x::xs,[],_=>by rw[IJ];exact⟨λa h=> .inl h,λa h=>h,λa h=>by(cases h),λp h=>by(cases h),cZ _⟩
 |0,x::xs,y::w,h=>by simp at h
 |k+1,x::xs,y::w,h=>by
  simp only[bD] at h;rcases zl x.bw y.bw with D|q|B
  .rw[adw _ _ D];have M:=Hp k xs (y::w) (by simp only[bD];omega);refine⟨λa h=> ?_,λa h=> ?_,λa h=> ?_,λp h=> ?_,M.le⟩
   .rcases aS.1 h with rfl|h
    .exact .inl ai
    .rcases M.sub a h with h|h
     .exact .inl (by simp[h])
     .exact .inr h
   .rcases aS.1 h with rfl|h
    .simp
    .exact dB _ (M.left a h)
   .obtain⟨b,hb,l⟩:=M.right a h;exact⟨b,dB _ hb,l⟩
   .obtain⟨a,ha,b,hb,l⟩:=M.pair p h;exact⟨a,dB _ ha,b,hb,l⟩
  .rw[adu _ _ q];have M:=Hp k xs w af;refine⟨λa h=> ?_,λa h=> ?_,λa h=> ?_,λp h=> ?_,by simp only[bD];have:=M.le;omega⟩
   .rcases aS.1 h with rfl|h
    .exact .inl ai
    .rcases M.sub a h with h|h
     .exact .inl (by simp[h])
     .exact .inr (by simp[h])
   .rcases aS.1 h with rfl|h
    .simp
    .exact dB _ (M.left a h)
   .rcases aS.1 h with rfl|h
    .exact⟨x,by simp,q, .inr ai⟩
    .obtain⟨b,hb,l,z⟩:=M.right a h;exact⟨b,dB _ hb,l,z.imp id (dB _)⟩
   .rcases aS.1 h with rfl|h
    .exact⟨x,by simp,y,by simp,q,rfl⟩
    .obtain⟨a,ha,b,hb,l⟩:=M.pair p h;exact⟨a,dB _ ha,b,dB _ hb,l⟩
  .rw[adv _ _ B];have M:=Hp k (x::xs) w (by simp only[bD];omega);refine⟨λa h=> ?_,λa h=> ?_,λa h=> ?_,λp h=> ?_,by simp only[bD];have:=M.le;omega⟩
   .rcases aS.1 h with rfl|h
    .exact .inr ai
    .rcases M.sub a h with h|h
     .exact .inl h
     .exact .inr (by simp[h])
   .exact dB _ (M.left a h)
   .rcases aS.1 h with rfl|h
    .exact⟨a,by simp,rfl, .inl rfl⟩
    .obtain⟨b,hb,l,z⟩:=M.right a h;exact⟨b,dB _ hb,l,z⟩
   .obtain⟨a,ha,b,hb,l⟩:=M.pair p h;exact⟨a,ha,b,dB _ hb,l⟩
theorem Pg:∀(k:Nat) (x y:List cz),x.length+y.length<=k->HR x->HR y->HR (mg x y).1
 |_,[],y,_,_,h=>by rw[Gg];exact h
 |_,x::xs,[],_,h,_=>by rw[IJ];exact h
 |0,x::xs,y::w,h,_,_=>by simp at h
 |k+1,x::xs,y::w,h,G,H=>by
  simp only[bD] at h;have l:=dU.1 G;have q:=dU.1 H;rcases zl x.bw y.bw with B|D|z
  .rw[adw _ _ B];refine dU.2 ⟨λa ha=> ?_,Pg k xs (y::w) (by simp only[bD];omega) l.2 H⟩;rcases(Hp k xs (y::w) (by simp only[bD];omega)).sub a ha with h|h
   .exact l.1 a h
   .rcases aS.1 h with rfl|h
    .exact B
    .have:=q.1 a h;omega
  .rw[adu _ _ D];refine dU.2 ⟨λa ha=> ?_,Pg k xs w af l.2 q.2⟩;rcases(Hp k xs w af).sub a ha with h|h
   .exact l.1 a h
   .have:=q.1 a h;omega
  .rw[adv _ _ z];refine dU.2 ⟨λa ha=> ?_,Pg k (x::xs) w (by simp only[bD];omega) G q.2⟩;rcases(Hp k (x::xs) w (by simp only[bD];omega)).sub a ha with h|h
   .rcases aS.1 h with rfl|h
    .exact z
    .have:=l.1 a h;omega
   .exact q.1 a h
def CG {q:Type} (x:q) (l:List q):((x::l).take (length (x::l))).drop (toNat (1:Int))=l:=by rw[fT];rfl
def Co {q R:Type} (x:q) (l:List q) (a:Option R):check (0<=(1:Int)/\(1:Int)<=(length (x::l):Nat)) a=a:=bT ⟨af,by simp only[bD];omega⟩ a
def jk {q R:Type} (x:q) (l:List q) (k:q->Option R):bf (x::l) 0 k=k x:=BD af rfl k
def h486 {a:Nat} {TL:List fM} {FL:List cW} {par ty:List Int} {ar:List (List cz)} (ha:a<ar.length):∀(k:Nat) (x y q:List cz) (wt:List dD),x.length+y.length<=k->x.length+y.length+q.length<=1000000000->wt.length+y.length<=1000000000->
  n9 (a:Int) x y q TL FL wt par ty ar=some (true,wt++(mg x y).2,par,ty,ar.set a (q++(mg x y).1)):=by
 intro k;induction k with
 |zero=>intro x y q wt K _ _;have N:x=[]:=kG.1 af;have O:y=[]:=kG.1 af;subst N;subst O;refine ac3 ?_;rw[cond_neg (by rfl),cond_neg (by rfl),rdL ha,Gg,dF,dF,aT]
 |succ k H=>
  intro x y q wt K w B;refine ac3 ?_;have P:∀{I:Type} (x:I) (l:List I),decide ((length (x::l):Int)>0)=true:=λx l=>by rw[bg,bD];omega
  have Z:∀{I:Type} (x:I) (l:List I),((length (x::l):Int)==0)=false:=λx l=>by rw[lP,bD];omega
  cases x with
  |nil=>cases y with
   |nil=>rw[cond_neg (by rfl),cond_neg (by rfl),rdL ha,Gg,dF,dF,aT]
   |cons y z=>
    simp only[bD,fG] at K w B
    rw[cond_neg (by rfl),cond_pos (P y z),cond_neg (Z y z),cond_neg (by rfl),cond_pos (by rfl),jk,cC _ af ai af,Co,CG,
     H [] z (q++[y]) wt aI aI af,Gg,Gg]
    simp
  |cons x xs=>cases y with
   |nil=>
    simp only[bD,fG] at K w B
    rw[cond_pos (P x xs),cond_pos (by rfl),jk,cC _ af ai af,Co,CG,
     H xs [] (q++[x]) wt aI aI aI,IJ,IJ]
    simp
   |cons y z=>
    simp only[bD] at K w B;rw[cond_pos (P x xs),cond_neg (Z y z),cond_pos (P x xs),jk,jk];rcases zl x.bw y.bw with G|L|D
    .rw[cond_pos (by rw[bg];exact G),jk,cC _ af ai af,Co,CG,
      H xs (y::z) (q++[x]) wt aI aI aI,adw _ _ G]
     simp
    .rw[cond_neg (by rw[aQ];omega),cond_neg (Z x xs),jk,jk,cond_neg (by rw[aQ];omega),jk,jk,cC _ af ai af,jk,cC _ af ai af,Co,Co,CG,CG,
      H xs z (q++[x]) _ af aI aI,adu _ _ L]
     simp
    .rw[cond_neg (by rw[aQ];omega),cond_neg (Z x xs),jk,jk,cond_pos (by rw[bg];exact D),jk,cC _ af ai af,Co,CG,
      H (x::xs) z (q++[y]) wt aI aI af,adv _ _ D]
     simp
end Go.Proofs.YthphfjcnkinkpaaGreatDoor.cl.pf
namespace Go.Proofs.YthphfjcnkinkpaaGreatDoor.cl.pf
open Go Go.AM
structure HM (h:aK) (T:Nat) (sb:Int->Int->Prop):Prop where
 to:TO T sb
 mt:∀a b:Int,0<=a->a<(T:Int)->0<=b->b<(T:Int)->
  (∃t,f335 h a b=some (t,true)/\f336 h a b=some (t,true)/\sb a t/\sb b t/\∀c,sb a c->sb b c->sb t c)\/
  (∃t,f335 h a b=some (t,false)/\f336 h a b=some (t,false)/\∀c,sb a c->sb b c->False)
def Nt (l:List dD):List (Nat×Nat):=l.map λp=>(p.a0.toNat,p.a1.toNat)
def yS (rep:Nat->Nat) (wt:List (Nat×Nat)) (x y:Nat):Prop:=∀E:Nat->Nat->Prop,Equivalence E->(∀a b,rep a=rep b->E a b)->(∀p∈wt,E p.1 p.2)->E x y
def yS.imp {rep l:Nat->Nat} {wt q:List (Nat×Nat)} {x y:Nat} (D:∀a b,rep a=rep b->yS l q a b) (G:∀p∈wt,yS l q p.1 p.2) (h:yS rep wt x y):yS l q x y:=
 λE w z B=>h E w (λa b hab=>D a b hab E w z B) λp H=>G p H E w z B
def yS.xY {rep:Nat->Nat} {wt:List (Nat×Nat)} {x y:Nat} (h:rep x=rep y):yS rep wt x y:=λE _ l _=>l x y h
theorem yS.KF {rep:Nat->Nat} {wt:List (Nat×Nat)} {p:Nat×Nat} (h:p∈wt):yS rep wt p.1 p.2:=λE _ _ l=>l p h
def yS.symm {rep:Nat->Nat} {wt:List (Nat×Nat)} {x y:Nat} (h:yS rep wt x y):yS rep wt y x:=λE l q w=>l.symm (h E l q w)
theorem yS.trans {rep:Nat->Nat} {wt:List (Nat×Nat)} {x y z:Nat} (h:yS rep wt x y) (B:yS rep wt y z):yS rep wt x z:=λE l q w=>l.trans (h E l q w) (B E l q w)
def yS.done {rep:Nat->Nat} {x y:Nat} (h:yS rep [] x y):rep x=rep y:=
 h (λa b=>rep a=rep b) ⟨λ_=>rfl,λh=>h.symm,λh l=>h.trans l⟩ (λ_ _ h=>h) (λp q=>by cases q)
structure AO (F n:Nat) (l:List cz):Prop where
 wT:HR l
 ok:∀a∈l,(0<=a.bw/\a.bw<(F:Int))/\0<=a.To/\a.To<(n:Int)
def AO.len {F n:Nat} {l:List cz} (h:AO F n l):l.length<=F:=by
 have:=s5 (N:=F) (o:=l.map λa=>a.bw.toNat) (by
  have q:=h.wT;have w:=h.ok;clear h;induction l with
  |nil=>simp
  |cons x l G=>
   have z:=dU.1 q;rw[bS,gy];refine⟨λH=> ?_,G z.2 λa ha=>w a (by simp[ha])⟩
   grind) (λx B=>by
  obtain⟨y,D,rfl⟩:=aG.1 B;have:=(h.ok y D).1
  omega)
 simp_all
def AO.mg {F n:Nat} {x y:List cz} (l:AO F n x) (q:AO F n y):AO F n (mg x y).1:=
 ⟨Pg _ x y (aZ _) l.wT q.wT,λa ha=>((Hp _ x y (aZ _)).sub a ha).elim (l.ok a) (q.ok a)⟩
structure JI (T:Nat) (Q:List cz->Prop) (sb:Int->Int->Prop) (U:Gr) (n:Nat) (W:List (Nat×Nat)) (wt:List dD) (par ty:List Int) (ar:List (List cz)) (rep d:Nat->Nat):Prop where
 pi:PI n par rep d
 lt:ty.length=n
 la:ar.length=n
 tr:∀x,x<n->0<=ty.getD x 0/\ty.getD x 0<(T:Int)
 ao:∀x,x<n->Q (ar.getD x [])
 wo:∀p∈wt,(0<=p.a0/\p.a0<(n:Int))/\0<=p.a1/\p.a1<(n:Int)
 sty:∀x,x<n->sb (U.ty x) (ty.getD (rep x) 0)
 sar:∀x,x<n->∀p∈U.sc x,∃a∈ar.getD (rep x) [],a.bw=p.1/\yS rep (Nt wt) p.2 a.To.toNat
 seq:∀p∈W,yS rep (Nt wt) p.1 p.2
 dG:∀C m,Det C->Ux sb U n W C m->(∀x,x<n->m (rep x)=m x)/\(∀x,x<n->rep x=x->sb (ty.getD x 0) (C.ty (m x))/\∀a∈ar.getD x [],(a.bw,m a.To.toNat)∈C.sc (m x))/\∀p∈Nt wt,m p.1=m p.2
def cnt (n:Nat) (rep:Nat->Nat):Nat:=((List.range n).filter λx=>rep x==x).length
section
variable {T:Nat} {Q:List cz->Prop} {sb:Int->Int->Prop} {U:Gr} {n:Nat} {W:List (Nat×Nat)} {wt:List dD} {par ty:List Int} {ar:List (List cz)} {rep d:Nat->Nat}
theorem sA (p:dD):Nt (wt++[p])=Nt wt++[(p.a0.toNat,p.a1.toNat)]:=by simp[Nt]
def JI.qN (h:JI T Q sb U n W wt par ty ar rep d) {l:List Int} {q:Nat->Nat} (w:PI n l rep q):JI T Q sb U n W wt l ty ar rep q:={ h with pi:=w }
def JI.skip {p:dD} (h:JI T Q sb U n W (wt++[p]) par ty ar rep d) (e:rep p.a0.toNat=rep p.a1.toNat):JI T Q sb U n W wt par ty ar rep d:=by
 have key:∀{x y},yS _ (Nt (wt++[p])) x y->yS _ _ x y:=λ{x y}=>yS.imp (λa b hab=> .xY hab) λq l=>by
  rw[sA] at l;rcases bu.1 l with l|l
  .exact .KF l
  .rw[cQ] at l;subst l;exact .xY e
 refine { h with wo:=λq l=>h.wo q (by simp[l]),sar:=λx H q l=> ?_,seq:=λq l=>key (h.seq q l),dG:=λC m D G=> ?_ }
 .obtain⟨a,w,z,B⟩:=h.sar x H q l;grind
 .obtain⟨w,z,B⟩:=h.dG C m D G;exact⟨w,z,λq l=>B q (by rw[sA];grind)⟩
def JI.mem {wt':List dD} (h:JI T Q sb U n W wt par ty ar rep d) (z:∀p,p∈wt↔p∈wt'):JI T Q sb U n W wt' par ty ar rep d:=by
 have key:∀{x y},yS rep (Nt _) x y->yS _ (Nt _) x y:=λ{x y}=>yS.imp (λa b hab=> .xY hab) λq l=>by obtain⟨p,w,rfl⟩:=aG.1 l;exact .KF (aG.2 ⟨p,(z p).1 w,rfl⟩)
 refine { h with wo:=λq l=>h.wo q ((z q).2 l),sar:=λx K q l=> ?_,seq:=λq l=>key (h.seq q l),dG:=λC m H I=> ?_ }
 .obtain⟨a,B,D,G⟩:=h.sar x K q l;grind
 .obtain⟨B,D,G⟩:=h.dG C m H I;refine⟨B,D,λq l=> ?_⟩;obtain⟨p,w,rfl⟩:=aG.1 l;exact G _ (aG.2 ⟨p,(z p).2 w,rfl⟩)
def JI.swap {p:dD} (h:JI T Q sb U n W (wt++[p]) par ty ar rep d):JI T Q sb U n W (wt++[⟨p.a1,p.a0⟩]) par ty ar rep d:=by
 have key:∀{x y},yS rep (Nt (wt++[p])) x y->yS _ (Nt (wt++[⟨p.a1,p.a0⟩])) x y:=λ{x y}=>yS.imp (λa b hab=> .xY hab) λq l=>by
  rw[sA] at l⊢;rcases bu.1 l with l|l
  .exact .KF (by simp[l])
  .rw[cQ] at l;subst l;exact yS.symm (yS.KF (p:=(p.a1.toNat,p.a0.toNat)) ai)
 refine { h with wo:=λq l=> ?_,sar:=λx H q l=> ?_,seq:=λq l=>key (h.seq q l),dG:=λC m D G=> ?_ }
 .rcases bu.1 l with l|l
  .exact h.wo q (by simp[l])
  .have:=h.wo p ai;simp_all
 .obtain⟨a,w,z,B⟩:=h.sar x H q l;grind
 .obtain⟨w,z,B⟩:=h.dG C m D G;refine⟨w,z,λq l=> ?_⟩;rw[sA] at l;rcases bu.1 l with l|l
  .grind[sA]
  .rw[cQ] at l;subst l;exact(B (p.a0.toNat,p.a1.toNat) (by rw[sA];simp)).symm
def JI.start {a b:Nat} (h:JI T Q sb U n W [] par ty ar rep d) (ha:a<n) (hb:b<n):JI T Q sb U n (W++[(a,b)]) [⟨a,b⟩] par ty ar rep d:=by
 have key:∀{x y},yS rep (Nt []) x y->yS _ (Nt [⟨(a),b⟩]) x y:=λ{x y}=>yS.imp (λa b hab=> .xY hab) λq l=>by cases l
 refine { h with wo:=λq l=> ?_,sar:=λx I q l=> ?_,seq:=λq l=> ?_,dG:=λC m G w=> ?_ }
 .simp_all
 .obtain⟨c,z,B,D⟩:=h.sar x I q l;grind
 .rcases bu.1 l with l|l
  .exact key (h.seq q l)
  grind[yS.KF,Nt]
 .obtain⟨z,B,D⟩:=h.dG C m G { w with eq:=λp H=>w.eq p (by simp[H]) };refine⟨z,B,λq l=> ?_⟩;simp[Nt,bS,fI,cQ] at l;subst l;exact w.eq _ ai
section
variable {p:dD} (h:JI T Q sb U n W (wt++[p]) par ty ar rep d) {a b:Nat} (ha:rep p.a0.toNat=a) (hb:rep p.a1.toNat=b) (hab:a≠b)
include h
theorem JI.pn:p.a0.toNat<n/\p.a1.toNat<n:=by have:=h.wo p ai;omega
include ha hb
theorem JI.rn:a<n/\b<n/\rep a=a/\rep b=b:=by obtain⟨l,q⟩:=h.pn;have w:=h.pi.rl _ l;have z:=h.pi.rl _ q;have B:=h.pi.rr _ l;have D:=h.pi.rr _ q;simp_all
theorem JI.meq {C:Gr} {m:Nat->Nat} (q:Det C) (w:Ux sb U n W C m):m a=m b:=by obtain⟨z,B⟩:=h.pn;obtain⟨e1,_,l⟩:=h.dG C m q w;have:=l (p.a0.toNat,p.a1.toNat) (by rw[sA];simp);grind
theorem JI.no (D:∀c,sb (ty.getD a 0) c->sb (ty.getD b 0) c->False) (C:Gr) (m:Nat->Nat) (l:Det C) (q:Ux sb U n W C m):False:=by obtain⟨z,G,B,H⟩:=h.rn ha hb;obtain⟨_,w,_⟩:=h.dG C m l q;refine D _ (w a z B).1 ?_;rw[h.meq ha hb l q];simp_all
include hab
theorem JI.merge (hQ:∀l,Q l->∀c∈l,0<=c.To/\c.To<(n:Int)) (hT:∀{a b c},sb a b->sb b c->sb a c) {r:List cz×List dD} (M:MG (ar.getD a []) (ar.getD b []) r) (w:Q r.1) {t:Int} (t0:0<=t/\t<(T:Int)) (t1:sb (ty.getD a 0) t) (t2:sb (ty.getD b 0) t) (t3:∀c,sb (ty.getD a 0) c->sb (ty.getD b 0) c->sb t c):
  JI T Q sb U n W (wt++r.2) (par.set b a) (ty.set a t) (ar.set a r.1) (λx=>if rep x=b then a else rep x) (λx=>if rep x=b then d x+d a+1 else d x):=by
 obtain⟨D,O,H,K⟩:=h.rn ha hb;have key:∀{x y},yS rep (Nt (wt++[p])) x y->yS (λx=>if rep x=b then a else rep x) (Nt (wt++r.2)) x y:=λ{x y}=>yS.imp (λu v P=> .xY (by show(if _ then _ else _)=if _ then _ else _;rw[P])) λq w=>by
  rw[sA] at w;rcases bu.1 w with w|w
  .exact .KF (by unfold Nt at *;rw[cL];simp[w])
  .rw[cQ] at w;subst w;refine .xY ?_;show(if _ then _ else _)=if _ then _ else _
   rw[ha,hb,az hab,aB rfl]
 have M6:b<par.length:=by rw[h.pi.len];exact O
 have hne:∀x,rep x=b->x≠a:=λx e z=>hab (by rw[<-e,z,H])
 refine⟨⟨by rw[gV];exact h.pi.len,λx B=> ?_,λx B=> ?_,λx B=> ?_,λx B=> ?_⟩,by rw[gV];exact h.lt,by rw[gV];exact h.la,λx B=> ?_,λx B=> ?_,λq w=> ?_,λx B=> ?_,λx B q w=> ?_,λq w=>key (h.seq q w),λC m hC hs=> ?_⟩
 .by_cases e:b=x
  .subst e;refine⟨a,D,by rw[eF,aB ⟨rfl,M6⟩],?_, .inr ?_⟩
   .show(if _ then _ else _)=if _ then _ else _
    rw[H,K,az hab,aB rfl]
   .show(if _ then _ else _)<if _ then _ else _
    rw[H,K,az hab,aB rfl];omega
  .obtain⟨y,hy,g1,g2,g3⟩:=h.pi.up x B;refine⟨y,hy,by rw[eF,az (λh=>e h.1)];exact g1,?_,?_⟩
   .show(if _ then _ else _)=if _ then _ else _
    rw[g2]
   .refine g3.imp id λg3=> ?_
    show(if _ then _ else _)<if _ then _ else _
    rw[g2];by_cases z:rep x=b
    .rw[aB z,aB z];omega
    .rw[az z,az z];exact g3
 .show _↔(if rep x=b then a else rep x)=x;by_cases e:b=x
  .subst e;rw[eF,aB ⟨rfl,M6⟩,aB K];omega
  .rw[eF,az (λh=>e h.1),h.pi.fix x B];by_cases z:rep x=b
   .rw[aB z];have:=hne x z;omega
   .rw[az z]
 .show(if _ then _ else _)<n;split
  .exact D
  .exact h.pi.rl x B
 .show(if rep (if rep x=b then a else rep x)=b then a else rep (if rep x=b then a else rep x))=if rep x=b then a else rep x
  by_cases z:rep x=b
  .rw[aB z,H,az hab]
  .rw[az z,h.pi.rr x B,az z]
 .rw[eF];split
  .exact t0
  .exact h.tr x B
 .rw[eF];split
  .exact w
  .exact h.ao x B
 .rcases bu.1 w with w|w
  .exact h.wo q (by simp[w])
  .obtain⟨u,hu,v,hv,_,rfl⟩:=M.pair q w;exact⟨hQ _ (h.ao a D) u hu,hQ _ (h.ao b O) v hv⟩
 .have V:=h.sty x B;show sb _ ((ty.set a t).getD (if rep x=b then a else rep x) 0);have G:a<ty.length:=by rw[h.lt];exact D
  by_cases z:rep x=b
  .rw[aB z,eF,aB ⟨rfl,G⟩];rw[z] at V;exact hT V t2
  .rw[az z];by_cases I:a=rep x
   .rw[<-I,eF,aB ⟨rfl,G⟩];rw[<-I] at V;exact hT V t1
   .rw[eF,az (λh=>I h.1)];exact V
 .obtain⟨c,N,S,h3⟩:=h.sar x B q w;have G:a<ar.length:=by rw[h.la];exact D
  show∃c∈(ar.set a _).getD (if rep x=b then a else rep x) [],_;by_cases z:rep x=b
  .rw[aB z,eF,aB ⟨rfl,G⟩];rw[z] at N;obtain⟨c',m1,m2,m3⟩:=M.right c N;refine⟨c',m1,by rw[m2,S],?_⟩;rcases m3 with rfl|m3
   .exact key h3
   .refine(key h3).trans (yS.symm (yS.KF (p:=(c'.To.toNat,c.To.toNat)) ?_));unfold Nt;rw[cL];exact gG _ (aG.2 ⟨_,m3,rfl⟩)
  .rw[az z];by_cases I:a=rep x
   .rw[<-I,eF,aB ⟨rfl,G⟩];rw[<-I] at N;exact⟨c,M.left c N,S,key h3⟩
   .rw[eF,az (λh=>I h.1)];exact⟨c,N,S,key h3⟩
 .obtain⟨e1,z,I⟩:=h.dG C m hC hs;have hm:=h.meq ha hb hC hs;have G:a<ar.length:=by rw[h.la];exact D
  have hal':a<ty.length:=by rw[h.lt];exact D
  obtain⟨a1,a2⟩:=z a D H;obtain⟨b1,b2⟩:=z b O K;rw[<-hm] at b1 b2;refine⟨λx B=> ?_,λx B L=> ?_,λq w=> ?_⟩
  .show m (if rep x=b then a else rep x)=m x;by_cases e:rep x=b
   .rw[aB e,hm,<-e,e1 x B]
   .rw[az e,e1 x B]
  .have L:(if rep x=b then a else rep x)=x:=L;by_cases e:rep x=b
   .rw[aB e] at L;exact absurd L.symm (hne x e)
   .rw[az e] at L;by_cases e4:a=x
    .subst e4;rw[eF,aB ⟨rfl,hal'⟩,eF,aB ⟨rfl,G⟩];exact⟨t3 _ a1 b1,λc hc=>(M.sub c hc).elim (a2 c) (b2 c)⟩
    .rw[eF,az (λh=>e4 h.1),eF,az (λh=>e4 h.1)];exact z x B L
  .unfold Nt at w;rw[cL] at w;rcases bu.1 w with w|w
   .exact I q (by rw[sA];exact cO _ w)
   .obtain⟨r',L,rfl⟩:=aG.1 w;obtain⟨u,hu,v,hv,P,rfl⟩:=M.pair r' L;have N:=a2 u hu;have S:=b2 v hv;rw[<-P] at S;exact(hC _).LW N S
theorem MN:cnt n (λx=>if rep x=b then a else rep x)+1<=cnt n rep:=by
 obtain⟨q,l,w,z⟩:=h.rn ha hb;have e:(List.range n).filter (λx=>(if rep x=b then a else rep x)==x)=((List.range n).filter λx=>rep x==x).filter λx=>x !=b:=by
  rw[D7];refine lM λx _=> ?_
  by_cases B:rep x=b<;>grind
 unfold cnt;rw[e];exact List.length_filter_lt_length_iff_exists.2 ⟨b,c7.2 ⟨gU.2 l,by simp_all⟩,ai⟩
end
end
def h443 {h:aK} {T F n:Nat} {sb:Int->Int->Prop} (H:HM h T sb) {U:Gr} {W:List (Nat×Nat)} {o:List dD} (hF:F<=1000000):∀(c k:Nat) (wt:List dD) (par ty:List Int) (ar:List (List cz)) (rep d:Nat->Nat),
  cnt n rep<=c->wt.length<=k->wt.length+cnt n rep *F<=500000000->JI T (AO F n) sb U n W wt par ty ar rep d->
  (∃q z w G d',Af wt o h.Types h.bC par ty ar=some (true,q,z,w)/\JI T (AO F n) sb U n W [] q z w G d')\/
  ((∃q z w,Af wt o h.Types h.bC par ty ar=some (false,q,z,w))/\∀C m,Det C->Ux sb U n W C m->False):=by
 intro c;induction c using Nat.strongRecOn with
 |ind c ihc=>
 intro k;induction k with
 |zero=>intro wt par ty ar rep d hc hk hb J;have e:wt=[]:=kG.1 af;subst e;exact .inl ⟨par,ty,ar,rep,d,VF (by rw[cond_neg (by rfl)]),J⟩
 |succ k ihk=>
  intro wt par ty ar rep d hc hk hb J;rcases List.eq_nil_or_concat wt with rfl|⟨K,p,rfl⟩
  .exact .inl ⟨par,ty,ar,rep,d,VF (by rw[cond_neg (by rfl)]),J⟩
  .rw[List.concat_eq_append] at *;have hl:(K++[p]).length=K.length+1:=ai;rw[hl] at hk hb;obtain⟨⟨p1,p2⟩,p3,p4⟩:=J.wo p ai;obtain⟨B,hx0⟩:=dM p1;obtain⟨D,hx1⟩:=dM p3;have hx0n:B<n:=af;have hx1n:D<n:=af;have r0:p.a0.toNat=B:=af;have r1:p.a1.toNat=D:=af;obtain⟨pa,f1,P1⟩:=c485 (TL:=h.Types) (FL:=h.bC) (ty:=ty) (ar:=ar) hx0n J.pi;obtain⟨P,f2,P2⟩:=c485 (TL:=h.Types) (FL:=h.bC) (ty:=ty) (ar:=ar) hx1n P1;have J2:=J.qN P2;have hgN:∀{R:Type} (k:dD->Option R),dO (K++[p]) K.length k=k p:=λk=>kW ai k
   have step:∀(r:Bool×List Int×List Int×List (List cz)),(bif(((rep B:Nat):Int) !=((rep D:Nat):Int)) then(
     Js (f486 ((rep B:Nat):Int) ((rep D:Nat):Int) h.Types h.bC K P ty ar) λy215 w218 S V w221=>bif(!y215) then some (false,S,V,w221) else Af w218 o h.Types h.bC S V w221)
     else Af K o h.Types h.bC P ty ar)=some r->Af (K++[p]) o h.Types h.bC par ty ar=some r:=by
    intro r hr;refine VF ?_;rw[hl,cond_pos (by rw[bg];omega),oF af,Ay af,aT,hgN,bT ⟨af,af⟩,hx0,f1,cF,hx1,f2,cF,zm rfl];exact hr
   by_cases N:rep B=rep D
   .have J3:=J2.skip (by rw[r0,r1];exact N);rcases ihk K P ty ar rep d hc af af J3 with⟨q,z,w,G,d',g1,g2⟩|⟨⟨q,z,w,g1⟩,g2⟩
    .exact .inl ⟨q,z,w,G,d',step _ (by rw[cond_neg (by rw[N];simp)];exact g1),g2⟩
    .exact .inr ⟨⟨q,z,w,step _ (by rw[cond_neg (by rw[N];simp)];exact g1)⟩,g2⟩
   .have ha:rep p.a0.toNat=rep B:=by rw[r0]
    have O:rep p.a1.toNat=rep D:=by rw[r1]
    obtain⟨L,I,hra,hrb⟩:=J2.rn ha O;have hal:rep B<ar.length:=by rw[J.la];exact L
    have Xx:rep D<ar.length:=by rw[J.la];exact I
    have Xw:rep B<ty.length:=by rw[J.lt];exact L
    have hbt:rep D<ty.length:=by rw[J.lt];exact I
    have hbp:rep D<P.length:=by rw[P2.len];exact I
    have hb1:(((rep B:Nat):Int) !=((rep D:Nat):Int))=true:=by rw[lQ];omega
    have ta:=J.tr _ L;have tb:=J.tr _ I;rcases H.mt _ _ ta.1 ta.2 tb.1 tb.2 with⟨t,m1,m2,m3,m4,m5⟩|⟨t,m1,m2,m3⟩
    .have la:=(J.ao _ L).len;have lb:=(J.ao _ I).len;have M:=Hp _ (ar.getD (rep B) []) (ar.getD (rep D) []) (aZ _);have J3:=J2.merge ha O N (λl hl c hc=>(hl.ok c hc).2) (λh1 h2=>H.to.trans h1 h2) M ((J.ao _ L).mg (J.ao _ I)) (H.to.rr m3) m3 m4 m5;have hcm:=MN J2 ha O N;have f3:f486 ((rep B:Nat):Int) ((rep D:Nat):Int) h.Types h.bC K P ty ar=some (true,K++(mg (ar.getD (rep B) []) (ar.getD (rep D) [])).2,P.set (rep D) ((rep B:Nat):Int),ty.set (rep B) t,ar.set (rep B) (mg (ar.getD (rep B) []) (ar.getD (rep D) [])).1):=by
      refine e486 ?_;rw[qE Xw,qE hbt];rw[show(aK.mk h.Types h.bC)=h from rfl,m1,aj,cond_neg (by rfl),qE hbp,qE Xw,rdL hal,rdL Xx,aT,aT,h486 hal _ _ _ _ _ (aZ _) (by simp only[fG];omega) af,dQ]
     have hmul:(cnt n (λx=>if rep x=rep D then rep B else rep x)+1) *F<=cnt n rep *F:=jS F hcm;rw[nt] at hmul;have hml:=M.le;rcases ihc _ (fH (Nat.lt_of_succ_le hcm) hc) (K++(mg (ar.getD (rep B) []) (ar.getD (rep D) [])).2).length _ _ _ _ _ _ (aZ _) (aZ _) (by rw[cE];omega) J3 with⟨q,z,w,G,d',g1,g2⟩|⟨⟨q,z,w,g1⟩,g2⟩
     .exact .inl ⟨q,z,w,G,d',step _ (by rw[cond_pos hb1,f3,zB,cond_neg (by rfl)];exact g1),g2⟩
     .exact .inr ⟨⟨q,z,w,step _ (by rw[cond_pos hb1,f3,zB,cond_neg (by rfl)];exact g1)⟩,g2⟩
    .have f3:f486 ((rep B:Nat):Int) ((rep D:Nat):Int) h.Types h.bC K P ty ar=some (false,K,P,ty,ar):=by
      refine e486 ?_;rw[qE Xw,qE hbt];rw[show(aK.mk h.Types h.bC)=h from rfl,m1,aj,cond_pos (by rfl)]
     exact .inr ⟨⟨_,_,_,step _ (by rw[cond_pos hb1,f3,zB,cond_pos (by rfl)])⟩,J2.no ha O m3⟩
def aa3 (n:Nat) (rep:Nat->Nat):cnt n rep<=n:=by grind[cnt]
def c443 {h:aK} {T F n:Nat} {sb:Int->Int->Prop} (H:HM h T sb) {U:Gr} {W:List (Nat×Nat)} (hF:F<=1000000) {par ty:List Int} {ar:List (List cz)} {rep d:Nat->Nat} {a b:Nat} (ha:a<n) (hb:b<n) (hn:n *F<=400000000) (J:JI T (AO F n) sb U n W [] par ty ar rep d):
  (∃l w q z B,f443 (a:Int) (b:Int) h.Types h.bC par ty ar=some (true,l,w,q)/\JI T (AO F n) sb U n (W++[(a,b)]) [] l w q z B)\/
  ((∃l w q,f443 (a:Int) (b:Int) h.Types h.bC par ty ar=some (false,l,w,q))/\∀C m,Det C->Ux sb U n (W++[(a,b)]) C m->False):=by
 have I:cnt n rep *F<=n *F:=jS F (aa3 n _);rcases h443 H (o:=[]) hF _ 1 _ _ _ _ _ d (aZ _) ai (by grind) (J.start ha hb) with⟨l,w,q,z,B,D,G⟩|⟨⟨l,w,q,D⟩,G⟩
 .grind[e443]
 simp_all[e443]
def mj (ty:List Int) (ar:List (List cz)) (rep:Nat->Nat):Gr:=⟨λx=>(ar.getD x []).map λa=>(a.bw,rep a.To.toNat),λx=>ty.getD x 0⟩
def JI.uni {T F n:Nat} {sb:Int->Int->Prop} {U:Gr} {W:List (Nat×Nat)} {par ty:List Int} {ar:List (List cz)} {rep d:Nat->Nat} (J:JI T (AO F n) sb U n W [] par ty ar rep d) (K:Bd U.sc n):YX T F sb U n W (mj ty ar rep) rep:=by
 refine⟨⟨λx l p q=> ?_,λx l=> ?_,λx l p q=> ?_,λx l=>J.tr x l⟩,J.pi.rl,J.pi.rr,λx l p q=> ?_,⟨J.sty,λx l p q=> ?_,λp q=>(J.seq p q).done⟩,λC m H I x l=> ?_⟩
 .obtain⟨a,ha,rfl⟩:=aG.1 q;exact J.pi.rl _ (by have:=((J.ao x l).ok a ha).2;omega)
 .show yb (List.map _ _);unfold yb;rw[jd];exact(J.ao x l).wT
 .obtain⟨a,ha,rfl⟩:=aG.1 q;exact((J.ao x l).ok a ha).1
 .obtain⟨a,ha,rfl⟩:=aG.1 q;exact J.pi.rr _ (by have:=((J.ao x l).ok a ha).2;omega)
 .obtain⟨a,ha,D,G⟩:=J.sar x l p q;refine aG.2 ⟨a,ha,?_⟩;rw[D,G.done]
 .obtain⟨e1,B,_⟩:=J.dG C m H I;obtain⟨w,z⟩:=B (rep x) (J.pi.rl x l) (J.pi.rr x l);rw[e1 x l] at w z;refine⟨e1 x l,w,λp q=> ?_⟩;obtain⟨a,ha,rfl⟩:=aG.1 q;show(a.bw,m (rep a.To.toNat))∈_;rw[e1 _ (by have:=((J.ao _ (J.pi.rl x l)).ok a ha).2;omega)];exact z a ha
end Go.Proofs.YthphfjcnkinkpaaGreatDoor.cl.pf
namespace Go.Proofs.YthphfjcnkinkpaaGreatDoor.cl.pf
open Go Go.AM
def FP (G:Gr) (o:List Nat) (y:Nat):Node:=⟨G.ty y,(G.sc y).map λp=>⟨p.1,(o.idxOf p.2:Nat)⟩⟩
theorem OM {o l:List Nat} (h:o<+:l) {x:Nat} (q:x∈o):l.idxOf x=o.idxOf x:=by obtain⟨t,rfl⟩:=h;grind
def ndO_pre {G:Gr} {o l:List Nat} (h:o<+:l) {y:Nat} (q:∀p∈G.sc y,p.2∈o):FP G o y=FP G l y:=by grind[FP,List.map_congr_left,OM]
structure NO (n:Nat) (num:List Int) (o:List Nat):Prop where
 len:num.length=n
 at_:∀x,x<n->num.getD x 0=if x∈o then(o.idxOf x:Int) else-1
def NO.snoc {n:Nat} {num:List Int} {o:List Nat} (h:NO n num o) {y:Nat} (w:y<n) (l:y∉o):NO n (num.set y (o.length:Int)) (o++[y]):=by
 refine⟨by rw[gV];exact h.len,λx q=> ?_⟩;rw[eF];by_cases e:y=x
 .subst e;rw[aB ⟨rfl,by rw[h.len];omega⟩,zn,az l];simp
 .rw[h.at_ x q];grind
section
variable {T F n:Nat} {TL:List fM} {FL:List cW} {ty:List Int} {ar:List (List cz)} {rep d:Nat->Nat}
variable (la:ar.length=n) (lt:ty.length=n) (hao:∀x,x<n->AO F n (ar.getD x [])) (hrl:∀x,x<n->rep x<n) (hrr:∀x,x<n->rep (rep x)=rep x) (hF:F<=1000000) (hn:n<=1000000)
include hao hrl in
theorem aa2:Bd (mj ty ar rep).sc n:=λx q p l=>by obtain⟨a,ha,rfl⟩:=aG.1 l;exact hrl _ (by have:=((hao x q).ok a ha).2;omega)
def VisR (n:Nat) (G:Gr) (rep d:Nat->Nat) (ty:List Int) (ar:List (List cz)) (res:Option (Int×List Int×List Node×List Int×List Int×List (List cz))) (w:Nat) (o z:List Nat) (out:List Node):Prop:=
 ∃l q,res=some ((w:Int),l,out++(z.drop o.length).map (FP G z),q,ty,ar)/\NO n l z/\PI n q rep d
include la lt hao hrl hF hn
theorem h487_9 {k:Nat} {o:List Nat} {y:Nat} {out:List Node} (hy:y<n) (hyo:y∉o) (N:out.length=o.length)
  (ih:∀(x:Nat) (o:List Nat) (num:List Int) (out:List Node) (par:List Int),x<n->NO n num o->PI n par rep d->Met n o->n<k+o.length->out.length=o.length->
   VisR n (mj ty ar rep) rep d ty ar (f487 (x:Int) TL FL num out par ty ar) ((nh (mj ty ar rep).sc k (rep x) o).idxOf (rep x)) o (nh (mj ty ar rep).sc k (rep x) o) out):
  ∀(l:List cz) (i:Nat) (q:List Nat) (num par:List Int),(ar.getD y []).drop i=l->NO n num q->PI n par rep d->Met n q->o++[y]<+:q->n<k+q.length->
   (∀z∈q.drop (o.length+1),∀p∈(mj ty ar rep).sc z,p.2∈q)->(∀a∈(ar.getD y []).take i,rep a.To.toNat∈q)->
   ∃B D,QO (o.length:Int) (ar.getD y []) ((ar.getD y []).length:Int) (i:Int) (((ar.getD y []).take i).map λa=>⟨a.bw,(q.idxOf (rep a.To.toNat):Nat)⟩) TL FL num ((out++[⟨ty.getD y 0,[]⟩])++(q.drop (o.length+1)).map (FP (mj ty ar rep) q)) par ty ar=
    some ((o.length:Int),B,(out++[FP (mj ty ar rep) (rJ (mj ty ar rep).sc k (l.map λa=>(a.bw,rep a.To.toNat)) q) y])++((rJ (mj ty ar rep).sc k (l.map λa=>(a.bw,rep a.To.toNat)) q).drop (o.length+1)).map (FP (mj ty ar rep) (rJ (mj ty ar rep).sc k (l.map λa=>(a.bw,rep a.To.toNat)) q)),D,ty,ar)/\
    NO n B (rJ (mj ty ar rep).sc k (l.map λa=>(a.bw,rep a.To.toNat)) q)/\PI n D rep d:=by
 have hB:Bd (mj ty ar rep).sc n:=aa2 hao hrl;have hal:=(hao y hy).len;intro l;induction l with
 |nil=>intro i q num par H hN hP hM I hk P G;refine⟨num,par,ac4 ?_,hN,hP⟩;rw[aW H,aA,Ay aI,aT,kW (x:=⟨ty.getD y 0,[]⟩) (by rw[fV aI,gD af,N];simp)];have e1:(ar.getD y []).take i=ar.getD y []:=gK (kJ H);rw[e1];simp only[fI,rJ,List.foldl_nil];congr 4;rw[yY _ _ aI,lJ _ _ af,N,kC,lU];congr 3;unfold FP mj;simp only[e8];rfl
 |cons a l ih2=>
  intro i q num par H hN hP hM I hk P G;have ha:a∈ar.getD y []:=aR (bV H);have hok:=((hao y hy).ok a ha).2;obtain⟨x,hx⟩:=dM hok.1;have S:x<n:=af;have K:a.To.toNat=x:=af;have hol:o.length+1<=q.length:=by have:=I.length_le;simpa using this
  obtain⟨B,D,f1,N1,P1⟩:=ih x q num ((out++[⟨ty.getD y 0,[]⟩])++(q.drop (o.length+1)).map (FP (mj ty ar rep) q)) par S hN hP hM hk aI;have w:=FO (sc:=(mj ty ar rep).sc) k (rep x) q;have V:=Ap hB k (rep x) q hM (hrl x S);obtain⟨c1,c2⟩:=Ao hB k (rep x) q hM (hrl x S) hk;have hlen2:=w.length_le
  obtain⟨num2,par2,g1,g2,g3⟩:=ih2 (i+1) (nh (mj ty ar rep).sc k (rep x) q) B D (aH H) N1 P1 V (I.trans w) af (λz L p hp=>by
    by_cases h2:z∈q.drop (o.length+1)
    .exact w.subset (P z h2 p hp)
    .by_cases h3:z∈q
     .obtain⟨t,ht⟩:=w;rw[<-ht,uZ hol] at L;rcases bu.1 L with L|L
      .exact absurd L h2
      .have:=V.nd;rw[<-ht,ig] at this;exact absurd rfl (this.2.2 z h3 z L)
     .exact c2 z (je L) h3 p hp) (λb hb=>by
    rw[cM] at hb;rcases bu.1 hb with hb|hb
    .exact w.subset (G b hb)
    .rw[bV H] at hb;simp at hb;subst hb
     rw[K];exact c1)
  refine⟨num2,par2,ac4 ?_,?_,g3⟩
  .have hcat:(out++[⟨ty.getD y 0,[]⟩])++(q.drop (o.length+1)).map (FP (mj ty ar rep) q)++((nh (mj ty ar rep).sc k (rep x) q).drop q.length).map (FP (mj ty ar rep) (nh (mj ty ar rep).sc k (rep x) q))=
     (out++[⟨ty.getD y 0,[]⟩])++((nh (mj ty ar rep).sc k (rep x) q).drop (o.length+1)).map (FP (mj ty ar rep) (nh (mj ty ar rep).sc k (rep x) q)):=by
    rw[ef];refine aU (λz=>(out++[(⟨ty.getD y 0,[]⟩:Node)])++z) ?_;have e1:(q.drop (o.length+1)).map (FP (mj ty ar rep) q)=(q.drop (o.length+1)).map (FP (mj ty ar rep) (nh (mj ty ar rep).sc k (rep x) q)):=
     iE λz L=>ndO_pre w (P z L)
    rw[e1,<-cL];refine aU (List.map _) ?_;obtain⟨t,ht⟩:=w;rw[<-ht,List.drop_left,uZ hol]
   have O:(((ar.getD y []).take i).map λa=>(⟨a.bw,(q.idxOf (rep a.To.toNat):Nat)⟩:cz))++[⟨a.bw,((nh (mj ty ar rep).sc k (rep x) q).idxOf (rep x):Nat)⟩]=
     ((ar.getD y []).take (i+1)).map λa=>(⟨a.bw,((nh (mj ty ar rep).sc k (rep x) q).idxOf (rep a.To.toNat):Nat)⟩:cz):=by
    rw[cM,bV H,cL];rw[iE (g:=λa=>(⟨a.bw,((nh (mj ty ar rep).sc k (rep x) q).idxOf (rep a.To.toNat):Nat)⟩:cz)) λb hb=>by rw[OM w (G b hb)]];simp[K]
   have hlt:=dN H;rw[aP H,ak,aJ H,hx,f1,Jt,cC _ (by rw[bz,e7];omega) ai af,aN H af,hcat];have:=O;rw[this,g1];simp only[bS,rJ,gx,K]
  .simp only[bS,rJ,gx,K];exact g2
include hrr in
theorem h487:∀(k x:Nat) (o:List Nat) (num:List Int) (out:List Node) (par:List Int),x<n->NO n num o->PI n par rep d->Met n o->n<k+o.length->out.length=o.length->
  VisR n (mj ty ar rep) rep d ty ar (f487 (x:Int) TL FL num out par ty ar) ((nh (mj ty ar rep).sc k (rep x) o).idxOf (rep x)) o (nh (mj ty ar rep).sc k (rep x) o) out:=by
 have hB:Bd (mj ty ar rep).sc n:=aa2 hao hrl;intro k;induction k with
 |zero=>intro x o num out par hx I hP K hk _;have:=s5 K.nd K.lt;omega
 |succ k ih=>
  intro x o num out par hx I hP K hk B;obtain⟨H,f1,P1⟩:=c485 (TL:=TL) (FL:=FL) (ty:=ty) (ar:=ar) hx hP;have w:=hrl x hx;have q:rep x<num.length:=by rw[I.len];exact w
  have SN:rep x<ty.length:=by rw[lt];exact w
  have hal:rep x<ar.length:=by rw[la];exact w
  have hol:=s5 K.nd K.lt;by_cases l:rep x∈o
  .have P:nh (mj ty ar rep).sc (k+1) (rep x) o=o:=by rw[nh,aB l]
   rw[P];refine⟨num,H,e487 ?_,I,P1⟩;rw[f1,cF,qE q,I.at_ _ w,aB l,cond_pos (by rw[bg];omega),qE q,I.at_ _ w,aB l];simp
  .have P:nh (mj ty ar rep).sc (k+1) (rep x) o=rJ (mj ty ar rep).sc k ((ar.getD (rep x) []).map λa=>(a.bw,rep a.To.toNat)) (o++[rep x]):=by rw[nh,az l];rfl
   have V:=K.snoc w l;obtain⟨N,O,S,g2,g3⟩:=h487_9 (TL:=TL) (FL:=FL) (d:=d) la lt hao hrl hF hn w l B ih (ar.getD (rep x) []) 0 (o++[rep x]) (num.set (rep x) (o.length:Int)) H rfl (I.snoc w l) P1 V (rR _) (by simp only[cE,dV];omega)
    (λz hz=>by rw[rV ai] at hz;cases hz) (λb hb=>by cases hb)
   rw[P];have D:=Cg (sc:=(mj ty ar rep).sc) k ((ar.getD (rep x) []).map λa=>(a.bw,rep a.To.toNat)) (o++[rep x]);generalize rJ (mj ty ar rep).sc k ((ar.getD (rep x) []).map λa=>(a.bw,rep a.To.toNat)) (o++[rep x])=G at *;have Xw:G.idxOf (rep x)=o.length:=by rw[OM D ai,zn,az l];simp
   refine⟨N,O,e487 ?_,g2,g3⟩;rw[f1,cF,qE q,I.at_ _ w,az l,cond_neg (by rfl),qE q,qE SN,cC _ af ai af,rdL hal,aT,B,Xw];rw[rV ai,fI,dF,zo,fI] at S;have e0:((0:Nat):Int)=0:=rfl;rw[e0] at S;rw[S];have L:(out++[FP (mj ty ar rep) G (rep x)])++(G.drop (o.length+1)).map (FP (mj ty ar rep) G)=out++(G.drop o.length).map (FP (mj ty ar rep) G):=by
    have e2:G.drop o.length=rep x::G.drop (o.length+1):=by obtain⟨t,ht⟩:=D;rw[<-ht,ef,List.drop_left,<-ef,uZ ai,rV ai];rfl
    rw[e2,bS,ef];rfl
   rw[L]
theorem h444 {root:Nat} {f0:FSt} {o5:List Int} {res:FSt×List Int×List Int×List (List cz)} {par:List Int}:∀(k i:Nat),n=i+k->
  (RN (f487 (root:Int) TL FL (replicate n (-1)) ([]:List Node) par ty ar) λG D l q w z=>some ((FSt.mk l),q,w,z))=some res->
  QF (root:Int) (n:Int) (i:Int) f0 (replicate i (-1)++replicate k 0) o5 TL FL par ty ar=some res:=by
 intro k;induction k with
 |zero=>
  intro i H B;refine acQ ?_
  have:i=n:=af
  subst this;rw[cond_neg (by rw[aQ];omega),nS,dF];exact B
 |succ k K=>
  intro i H B;refine acQ ?_;have I:i<(replicate i (-1:Int)++replicate (k+1) 0).length:=ai;rw[cond_pos (by rw[bg];omega),qE I,aT,bM af];have e:(replicate i (-1:Int)++replicate (k+1) 0).set i (-1)=replicate (i+1) (-1)++replicate k 0:=by rw[lJ _ _ ai,kD,kC,mb,lU,qa];simp
  rw[e];exact K (i+1) af B
include hrr in
theorem c444 {root:Nat} {par:List Int} (B:root<n) (P:PI n par rep d):∃l,f444 (root:Int) TL FL par ty ar=some (kI (mj ty ar rep) n (rep root),l,ty,ar):=by
 have z:NO n (replicate n (-1)) []:=⟨ai,λx D=>by rw[az ai,bA,nT,aB D];rfl⟩
 obtain⟨q,l,w,_,_⟩:=h487 (TL:=TL) (FL:=FL) (d:=d) la lt hao hrl hrr hF hn (n+1) root [] (replicate n (-1)) [] par B z P Met.nil ai rfl;refine⟨l,e444 ?_⟩;rw[bT ⟨af,by omega,by rw[P.len];omega,by rw[P.len];omega⟩,P.len,aT,kD];have:=h444 (TL:=TL) (FL:=FL) (root:=root) (f0:=⟨[]⟩) (o5:=[]) (par:=par) la lt hao hrl hF hn n 0 af (by rw[w,Jt]);rw[nS,dQ] at this;exact this
end
