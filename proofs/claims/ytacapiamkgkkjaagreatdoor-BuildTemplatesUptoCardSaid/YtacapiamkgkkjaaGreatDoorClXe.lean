/- Layer 6. -/
import Derived.Test.YtacapiamkgkkjaaGreatDoorClSg
import Derived.Test.YtacapiamkgkkjaaGreatDoorClXc
set_option linter.all false
open Int (toNat)
open List (length)
namespace Go.Proofs.YtacapiamkgkkjaaGreatDoor.cl
open Go Go.AM
structure Hd (h:aV) (cs:List Nat):Prop where
 eq:h.Types.map (·.Code)=cs.map e1
 lt:∀c∈cs,c<18446744073709551616
 len:cs.length<=1000
def Hd.length {h:aV} {cs:List Nat} (H:Hd h cs):h.Types.length=cs.length:=by have:=aU (λl=>l.length) H.eq;simpa using this
def Hd.code {h:aV} {cs:List Nat} (H:Hd h cs) {i:Nat} (hi:i<h.Types.length):h.Types[i].Code=e1 (cs.getD i 0):=by
 have q:i<cs.length:=by rw[<-H.length];exact hi
 have:=aU (λl=>l[i]?) H.eq;simp only[dV,aM hi,aM q,ey,aW] at this;rw[this,bD,aM q];rfl
def Hd.get {h:aV} {cs:List Nat} (H:Hd h cs) {i:Nat} (hi:i<cs.length):cs.getD i 0<18446744073709551616:=H.lt _ (mA hi)
def hty {d:List aB} {i:Nat} (hi:i<(tys d).length):∃h:i<(sQ d).Types.length,(sQ d).Types[i]=Xv d i:=by refine⟨by simpa[sQ] using hi,?_⟩;simp[sQ]
def hd5 {d:List aB} (O:Ok5 d):Hd (sQ d) (tys d):=by
 refine⟨?_,λc q=>O.ok.ltmem q,by have:=O.ok.cM;omega⟩;apply oh
 .simp[sQ]
 .intro i w l;have hi:i<(tys d).length:=by simpa using l
  simp only[sQ,lH,EA,Xv];rw[bD,aM hi];rfl
def Dp (cs:List Nat) (w:Nat):Int×Bool:=if H9 cs w<0 then(0,false) else(H9 cs w,true)
def fnI (xs:List Nat) (w i:Nat):Int:=match xs.findIdx? (· ==w) with
 |some j=>((i+j:Nat):Int)
 |none=> -1
def S8 (cs:List Nat) (w:Nat):fnI cs w 0=H9 cs w:=by unfold fnI H9;cases cs.findIdx? (· ==w)<;>simp
def S7 (c:Nat) (xs:List Nat) (w i:Nat):fnI (c::xs) w i=if c=w then(i:Int) else fnI xs w (i+1):=by
 unfold fnI;rw[vg];by_cases e:c=w
 .subst e;simp
 .have l:(c==w)=false:=by simpa using e
  rw[l,aA e];cases xs.findIdx? (· ==w) with
  |none=>rfl
  |some j=>
   show((i+(j+1):Nat):Int)=((i+1+j:Nat):Int)
   omega
def X7 {h:aV} {cs:List Nat} (H:Hd h cs) {i c:Nat} {xs:List Nat} (l:cs.drop i=c::xs):∃hi:i<h.Types.length,h.Types[i].Code=e1 c/\c<18446744073709551616:=by
 have hi:=eM l;have q:=H.length;refine⟨af,?_,?_⟩
 .rw[H.code,bD,bU l];rfl
 .exact H.lt c (aP (bU l))
section
variable {h:aV} {cs:List Nat} (H:Hd h cs)
include H
theorem h353 {w:Nat} (G:w<18446744073709551616):∀(xs:List Nat) (i:Nat),cs.drop i=xs->Ra h.Types (e1 w) h.Types.length i=some (fnI xs w i):=by have L:=H.len;intro xs;induction xs with
 |nil=>intro i z;refine ads ?_;rw[H.length,bg z];rfl
 |cons c xs I=>
  intro i z;refine ads ?_;obtain⟨hi,D,q⟩:=X7 H z;have l:f371 h.Types[i] (e1 w)=some (decide (c=w)):=by refine e371 ?_;rw[D,o31 q G];rfl
  have B:=H.length;rw[cond_pos (by rw[bN];omega),cR hi,l,ak,bJ af,I (i+1) (aI z),S7];by_cases e:c=w
  .rw[aC e,cond_pos (by simpa using e)]
  .rw[aA e,cond_neg (by simpa using e)]
theorem o353 {w:Nat} (l:w<18446744073709551616):f353 h.Types (e1 w)=some (H9 cs w):=by refine e353 ?_;rw[<-S8];exact h353 H l cs 0 rfl
theorem h354 {w:Nat} (D:w<18446744073709551616):∀(xs:List Nat) (i:Nat),cs.drop i=xs->Rb (e1 w) i h=some (if fnI xs w i<0 then(0,false) else(fnI xs w i,true)):=by have I:=H.len;intro xs;induction xs with
 |nil=>intro i q;refine adt ?_;rw[H.length,bg q];rfl
 |cons c xs G=>
  intro i q;refine adt ?_;obtain⟨hi,B,l⟩:=X7 H q;have z:=H.length;rw[cond_pos (by rw[bN];omega),cR hi,B,o57 l D,ak,bJ af,G (i+1) (aI q),S7];by_cases e:c=w
  .rw[aC e,cond_pos (by simpa using e),aA af]
  .rw[aA e,cond_neg (by simpa using e)]
theorem o354 {w:Nat} (l:w<18446744073709551616):f354 h (e1 w)=some (Dp cs w):=by refine e354 ?_;unfold Dp;rw[<-S8];exact h354 H l cs 0 rfl
variable (K:abr cs) {i j:Nat} (hi:i<cs.length) (hj:j<cs.length)
include hi
theorem o339 {j:Nat} (hj:j<cs.length):f339 h i j=some (sub (cs.getD j 0) (cs.getD i 0)):=by refine e339 ?_;have l:=H.length;rw[cR af,cR af,H.code,H.code,o63 (H.get hj) (H.get hi)];rfl
theorem o340 {j:Nat} (hj:j<cs.length):f340 h i j=some (sub (cs.getD j 0) (cs.getD i 0)):=by refine e340 ?_;have l:=H.length;rw[cR af,cR af,H.code,H.code,o65 (H.get hj) (H.get hi)];rfl
include K hj
theorem o335:f335 h i j=some (Dp cs (cs.getD i 0&&&cs.getD j 0)):=by
 refine e335 ?_;have B:=H.length;have z:cs.getD i 0&&&cs.getD j 0<18446744073709551616:=n9 sE (H.get hi);rw[cR af,cR af,H.code,H.code,o29 (H.get hi) (H.get hj),ak];by_cases q:cs.getD i 0&&&cs.getD j 0=0
 .rw[q,cond_pos (by rfl)];unfold Dp;rw[XX (λw=>K.nz 0 w rfl)];rfl
 .rw[cond_neg (by rw[lE];intro e;exact q (EY af)),o353 H z,ak];unfold Dp;by_cases l:H9 cs (cs.getD i 0&&&cs.getD j 0)<0
  .rw[cond_pos (by simpa using l),aC l]
  .rw[cond_neg (by simpa using l),aA l]
theorem o336:f336 h i j=some (Dp cs (cs.getD i 0&&&cs.getD j 0)):=by refine e336 ?_;have q:=H.length;have l:cs.getD i 0&&&cs.getD j 0<18446744073709551616:=n9 sE (H.get hi);rw[cR af,cR af,H.code,H.code,o61 (H.get hi) (H.get hj),ak,o354 H l];rfl
end
def h355 {l:List gi} (z:l.length<=1000) (f:Int):∀(xs:List gi) (i:Nat),l.drop i=xs->JG f l l.length i=some (match xs.find? λx=>x.bP==f with|some x=>(x.Value,true)|none=>(0,false)):=by intro xs;induction xs with
 |nil=>intro i q;refine Yr ?_;rw[bg q];rfl
 |cons x xs w=>intro i q;refine Yr ?_;rw[aR q,aj,aK q,aN q af,w (i+1) (aI q),mL];cases hb:x.bP==f<;>simp
def h356 {l:List gi} (z:l.length<=1000) (f:Int):∀(xs:List gi) (i:Nat),l.drop i=xs->Rc f l i=some (match xs.find? λx=>x.bP==f with|some x=>(x.Value,true)|none=>(0,false)):=by intro xs;induction xs with
 |nil=>intro i q;refine adu ?_;rw[bg q];rfl
 |cons x xs w=>intro i q;refine adu ?_;rw[aR q,aj,aK q,aK q,aN q af,w (i+1) (aI q),mL];cases hb:x.bP==f<;>rfl
def UG {d:List aB} {w j:Nat} {F:bV} (h:(rf d)[j]? =some F):(match(yt d w (rf d) 0).find? (λx=>x.bP==(j:Int)) with|some x=>(x.Value,true)|none=>(0,false))=(match inh d w F with|some c=>(H9 (tys d) c,true)|none=>(0,false)):=by have:=aaV (d:=d) (w:=w) (rf d) 0 j F h;rw[eY] at this;rw[this];cases inh d w F<;>rfl
section
variable {d:List aB} (O:Ok5 d) {T:Nat} (hT:T<(tys d).length) {j:Nat} {F:bV} (hj:(rf d)[j]? =some F)
include O hT hj
theorem o355:f355 (sQ d) T j=some (match inh d ((tys d).getD T 0) F with|some c=>(H9 (tys d) c,true)|none=>(0,false)):=by obtain⟨l,q⟩:=hty hT;have z:=II (d:=d) (w:=(tys d).getD T 0) (rf d) 0;have w:=O.f64;refine e355 ?_;rw[cR l,q,<-UG hj];exact h355 (by show(yt _ _ _ _).length<=1000;omega) j _ 0 rfl
theorem o356:f356 (sQ d) T j=some (match inh d ((tys d).getD T 0) F with|some c=>(H9 (tys d) c,true)|none=>(0,false)):=by obtain⟨l,q⟩:=hty hT;have z:=II (d:=d) (w:=(tys d).getD T 0) (rf d) 0;have w:=O.f64;refine e356 ?_;rw[cR l,q,<-UG hj];exact h356 (by show(yt _ _ _ _).length<=1000;omega) j _ 0 rfl
end
end Go.Proofs.YtacapiamkgkkjaaGreatDoor.cl
namespace Go.Proofs.YtacapiamkgkkjaaGreatDoor.cl.pf
open Go Go.AM
section
variable {R:Type}
theorem uA {l:List Int} {i:Nat} (h:i<l.length) (k:Int->Option R):check (0<=(i:Int)/\toNat (i:Int)<l.length) (ef l (toNat (i:Int)) k)=k (l.getD i 0):=by simp_all[b9,X0]
def rdL {q:Type} {l:List (List q)} {i:Nat} (h:i<l.length) (k:List q->Option R):check (0<=(i:Int)/\toNat (i:Int)<l.length) (ef l (toNat (i:Int)) k)=k (l.getD i []):=by simp_all[b9,X0]
def BG {l:Nat} {i:Nat} (h:i<l) (a:Option R):check (0<=(i:Int)/\toNat (i:Int)<l) a=a:=b9 ⟨af,af⟩ a
def cL {l q w z:Type} (a:l) (b:q) (c:w) (d:z) (k:l->q->w->z->Option R):nx (some (a,b,c,d)) k=k a b c d:=rfl
def vZ {l q w z B:Type} (a:l) (b:q) (c:w) (d:z) (e:B) (k:l->q->w->z->B->Option R):HP (some (a,b,c,d,e)) k=k a b c d e:=rfl
def Kf {l q w z B D:Type} (a:l) (b:q) (c:w) (d:z) (e:B) (g:D) (k:l->q->w->z->B->D->Option R):Sh (some (a,b,c,d,e,g)) k=k a b c d e g:=rfl
end
def fI {q:Type} (l:List q) (i j:Nat) (v d:q):(l.set i v).getD j d=if i=j/\j<l.length then v else l.getD j d:=by grind
structure PI (n:Nat) (par:List Int) (rep d:Nat->Nat):Prop where
 len:par.length=n
 up:∀x,x<n->∃y,y<n/\par.getD x 0=(y:Int)/\rep y=rep x/\(y=x\/d y<d x)
 fix:∀x,x<n->(par.getD x 0=(x:Int)↔rep x=x)
 rl:∀x,x<n->rep x<n
 rr:∀x,x<n->rep (rep x)=rep x
section
variable {n:Nat} {rep d:Nat->Nat} {TL:List fL} {FL:List dg} {ty:List Int} {ar:List (List cD)}
def h485:∀(k x:Nat) (par:List Int),d x<=k->x<n->PI n par rep d->∃q,Mq (x:Int) TL FL par ty ar=some (((rep x:Nat):Int),q,ty,ar)/\PI n q rep d:=by intro k;induction k with
 |zero=>
  intro x par hk D P;obtain⟨y,hy,B,N,h3⟩:=P.up x D;have l:x<par.length:=by rw[P.len];exact D
  have e:y=x:=af;subst e;refine⟨par,Wj ?_,P⟩;rw[uA l,B,cond_neg ai,(P.fix y D).1 B]
 |succ k ih=>
  intro x par hk D P;obtain⟨y,hy,B,N,h3⟩:=P.up x D;have l:x<par.length:=by rw[P.len];exact D
  have hyl:y<par.length:=by rw[P.len];exact hy
  by_cases e:y=x
  .subst e;refine⟨par,Wj ?_,P⟩;rw[uA l,B,cond_neg ai,(P.fix y D).1 B]
  .have h3:d y<d x:=af;obtain⟨z,hz,g1,g2,g3⟩:=P.up y hy;have I:d z<d x:=by rcases g3 with rfl|g3<;>omega
   have P':PI n (par.set x z) rep d:=by
    refine⟨by rw[iO];exact P.len,λw V=> ?_,λw V=> ?_,P.rl,P.rr⟩
    .by_cases G:x=w
     .subst G;exact⟨z,hz,by rw[fI,aC ⟨rfl,l⟩],by rw[g2,N], .inr I⟩
     .obtain⟨v,S⟩:=P.up w V;exact⟨v,S.1,by rw[fI,aA (λh=>G h.1)];exact S.2.1,S.2.2⟩
    .by_cases G:x=w
     .subst G;rw[fI,aC ⟨rfl,l⟩];have hxz:z≠x:=λe=>by rw[e] at I;omega
      have:=P.fix x D;rw[B] at this;constructor
      .intro h;omega
      .intro h;have:=this.2 h;omega
     .rw[fI,aA (λh=>G h.1)];exact P.fix w V
   obtain⟨q,r1,r2⟩:=ih z (par.set x z) af hz P';refine⟨q,Wj ?_,r2⟩;rw[uA l,B,cond_pos aH,uA l,B,uA hyl,g1,uA l,aS];have hs:x<(par.set x (z:Int)).length:=by rw[iO];exact l
   have h0:=uA hs (λL=>Mq L TL FL (par.set x (z:Int)) ty ar);rw[aS] at h0;rw[h0,fI,aC ⟨rfl,l⟩,r1,g2,N]
def c485 {x:Nat} {par:List Int} (z:x<n) (P:PI n par rep d):∃l,f485 (x:Int) TL FL par ty ar=some (((rep x:Nat):Int),l,ty,ar)/\PI n l rep d:=by obtain⟨l,q,w⟩:=h485 (TL:=TL) (FL:=FL) (ty:=ty) (ar:=ar) (d x) x par (aQ _) z P;exact⟨l,e485 q,w⟩
end
def mg:List cD->List cD->List cD×List dN
 |[],l=>(l,[])
 |x::xs,[]=>(x::xs,[])
 |x::xs,y::l=>
  if x.bP<y.bP then(x::(mg xs (y::l)).1,(mg xs (y::l)).2)
  else if y.bP<x.bP then(y::(mg (x::xs) l).1,(mg (x::xs) l).2)
  else(x::(mg xs l).1,⟨x.To,y.To⟩::(mg xs l).2)
 termination_by x y=>x.length+y.length
def GR (l:List cD):mg [] l=(l,[]):=by rw[mg]
def Jo (xs:List cD):mg xs []=(xs,[]):=by cases xs<;>rw[mg]
def aev {x y:cD} (xs l:List cD) (h:x.bP<y.bP):mg (x::xs) (y::l)=(x::(mg xs (y::l)).1,(mg xs (y::l)).2):=by rw[mg,aC h]
def aeu {x y:cD} (xs l:List cD) (h:y.bP<x.bP):mg (x::xs) (y::l)=(y::(mg (x::xs) l).1,(mg (x::xs) l).2):=by rw[mg,aA af,aC h]
def aet {x y:cD} (xs l:List cD) (h:x.bP=y.bP):mg (x::xs) (y::l)=(x::(mg xs l).1,⟨x.To,y.To⟩::(mg xs l).2):=by rw[mg,aA af,aA af]
structure MG (x y:List cD) (r:List cD×List dN):Prop where
 sub:∀a∈r.1,a∈x\/a∈y
 left:∀a∈x,a∈r.1
 right:∀a∈y,∃b∈r.1,b.bP=a.bP/\(b=a\/⟨b.To,a.To⟩∈r.2)
 pair:∀p∈r.2,∃a∈x,∃b∈y,a.bP=b.bP/\p=⟨a.To,b.To⟩
 le:r.2.length<=y.length
def Gm (l:List cD):Prop:=l.Pairwise λp q=>p.bP<q.bP
def Io:∀(k:Nat) (x y:List cD),x.length+y.length<=k->MG x y (mg x y)
 |_,[],y,_=>by rw[GR];exact⟨λa h=> .inr h,λa h=>by(cases h),λa h=>⟨a,h,rfl, .inl rfl⟩,λp h=>by(cases h),cO _⟩
 |_,x::xs,[],_=>by rw[Jo];exact⟨λa h=> .inl h,λa h=>h,λa h=>by(cases h),λp h=>by(cases h),cO _⟩
 |0,x::xs,y::w,h=>by simp at h
 |k+1,x::xs,y::w,h=>by
  simp only[bA] at h;rcases zI x.bP y.bP with D|q|B
  .rw[aev _ _ D];have M:=Io k xs (y::w) (by simp only[bA];omega);refine⟨λa h=> ?_,λa h=> ?_,λa h=> ?_,λp h=> ?_,M.le⟩
   .rcases aJ.1 h with rfl|h
    .exact .inl ai
    .rcases M.sub a h with h|h
     .exact .inl (by simp[h])
     .exact .inr h
   .rcases aJ.1 h with rfl|h
    .simp
    .exact dF _ (M.left a h)
   .obtain⟨b,hb,l⟩:=M.right a h;exact⟨b,dF _ hb,l⟩
   .obtain⟨a,ha,b,hb,l⟩:=M.pair p h;exact⟨a,dF _ ha,b,hb,l⟩
  .rw[aet _ _ q];have M:=Io k xs w af;refine⟨λa h=> ?_,λa h=> ?_,λa h=> ?_,λp h=> ?_,by simp only[bA];have:=M.le;omega⟩
   .rcases aJ.1 h with rfl|h
    .exact .inl ai
    .rcases M.sub a h with h|h
     .exact .inl (by simp[h])
     .exact .inr (by simp[h])
   .rcases aJ.1 h with rfl|h
    .simp
    .exact dF _ (M.left a h)
   .rcases aJ.1 h with rfl|h
    .exact⟨x,by simp,q, .inr ai⟩
    .obtain⟨b,hb,l,z⟩:=M.right a h;exact⟨b,dF _ hb,l,z.imp id (dF _)⟩
   .rcases aJ.1 h with rfl|h
    .exact⟨x,by simp,y,by simp,q,rfl⟩
    .obtain⟨a,ha,b,hb,l⟩:=M.pair p h;exact⟨a,dF _ ha,b,dF _ hb,l⟩
  .rw[aeu _ _ B];have M:=Io k (x::xs) w (by simp only[bA];omega);refine⟨λa h=> ?_,λa h=> ?_,λa h=> ?_,λp h=> ?_,by simp only[bA];have:=M.le;omega⟩
   .rcases aJ.1 h with rfl|h
    .exact .inr ai
    .rcases M.sub a h with h|h
     .exact .inl h
     .exact .inr (by simp[h])
   .exact dF _ (M.left a h)
   .rcases aJ.1 h with rfl|h
    .exact⟨a,by simp,rfl, .inl rfl⟩
    .obtain⟨b,hb,l,z⟩:=M.right a h;exact⟨b,dF _ hb,l,z⟩
   .obtain⟨a,ha,b,hb,l⟩:=M.pair p h;exact⟨a,ha,b,dF _ hb,l⟩
def P3:∀(k:Nat) (x y:List cD),x.length+y.length<=k->Gm x->Gm y->Gm (mg x y).1
 |_,[],y,_,_,h=>by rw[GR];exact h
 |_,x::xs,[],_,h,_=>by rw[Jo];exact h
 |0,x::xs,y::w,h,_,_=>by simp at h
 |k+1,x::xs,y::w,h,G,I=>by
  simp only[bA] at h;have l:=c7.1 G;have q:=c7.1 I;rcases zI x.bP y.bP with B|D|z
  .rw[aev _ _ B];refine c7.2 ⟨λa ha=> ?_,P3 k xs (y::w) (by simp only[bA];omega) l.2 I⟩;rcases(Io k xs (y::w) (by simp only[bA];omega)).sub a ha with h|h
   .exact l.1 a h
   .rcases aJ.1 h with rfl|h
    .exact B
    .have:=q.1 a h;omega
  .rw[aet _ _ D];refine c7.2 ⟨λa ha=> ?_,P3 k xs w af l.2 q.2⟩;rcases(Io k xs w af).sub a ha with h|h
   .exact l.1 a h
   .have:=q.1 a h;omega
  .rw[aeu _ _ z];refine c7.2 ⟨λa ha=> ?_,P3 k (x::xs) w (by simp only[bA];omega) G q.2⟩;rcases(Io k (x::xs) w (by simp only[bA];omega)).sub a ha with h|h
   .rcases aJ.1 h with rfl|h
    .exact z
    .have:=l.1 a h;omega
   .exact q.1 a h
def CS {q:Type} (x:q) (l:List q):((x::l).take (length (x::l))).drop (toNat (1:Int))=l:=by rw[fZ];rfl
def Cv {q R:Type} (x:q) (l:List q) (a:Option R):check (0<=(1:Int)/\(1:Int)<=(length (x::l):Nat)) a=a:=b9 ⟨af,by simp only[bA];omega⟩ a
def jS {q R:Type} (x:q) (l:List q) (k:q->Option R):bp (x::l) 0 k=k x:=KK af rfl k
def h486 {a:Nat} {TL:List fL} {FL:List dg} {par ty:List Int} {ar:List (List cD)} (ha:a<ar.length):∀(k:Nat) (x y q:List cD) (wt:List dN),x.length+y.length<=k->x.length+y.length+q.length<=1000000000->wt.length+y.length<=1000000000->
  oD (a:Int) x y q TL FL wt par ty ar=some (true,wt++(mg x y).2,par,ty,ar.set a (q++(mg x y).1)):=by
 intro k;induction k with
 |zero=>intro x y q wt N _ _;have V:x=[]:=ou.1 af;have hy:y=[]:=ou.1 af;subst V;subst hy;refine adZ ?_;rw[cond_neg (by rfl),cond_neg (by rfl),rdL ha,GR,eP,eP,aS]
 |succ k I=>
  intro x y q wt N w B;refine adZ ?_;have P:∀{L:Type} (x:L) (l:List L),decide ((length (x::l):Int)>0)=true:=λx l=>by rw[bN,bA];omega
  have Z:∀{L:Type} (x:L) (l:List L),((length (x::l):Int)==0)=false:=λx l=>by rw[lE,bA];omega
  cases x with
  |nil=>cases y with
   |nil=>rw[cond_neg (by rfl),cond_neg (by rfl),rdL ha,GR,eP,eP,aS]
   |cons y z=>
    simp only[bA,fK] at N w B
    rw[cond_neg (by rfl),cond_pos (P y z),cond_neg (Z y z),cond_neg (by rfl),cond_pos (by rfl),jS,cF _ af ai af,Cv,CS,
     I [] z (q++[y]) wt aH aH af,GR,GR]
    simp
  |cons x xs=>cases y with
   |nil=>
    simp only[bA,fK] at N w B
    rw[cond_pos (P x xs),cond_pos (by rfl),jS,cF _ af ai af,Cv,CS,
     I xs [] (q++[x]) wt aH aH aH,Jo,Jo]
    simp
   |cons y z=>
    simp only[bA] at N w B;rw[cond_pos (P x xs),cond_neg (Z y z),cond_pos (P x xs),jS,jS];rcases zI x.bP y.bP with G|S|D
    .rw[cond_pos (by rw[bN];exact G),jS,cF _ af ai af,Cv,CS,
      I xs (y::z) (q++[x]) wt aH aH aH,aev _ _ G]
     simp
    .rw[cond_neg (by rw[bB];omega),cond_neg (Z x xs),jS,jS,cond_neg (by rw[bB];omega),jS,jS,cF _ af ai af,jS,cF _ af ai af,Cv,Cv,CS,CS,
      I xs z (q++[x]) _ af aH aH,aet _ _ S]
     simp
    .rw[cond_neg (by rw[bB];omega),cond_neg (Z x xs),jS,jS,cond_pos (by rw[bN];exact D),jS,cF _ af ai af,Cv,CS,
      I (x::xs) z (q++[y]) wt aH aH af,aeu _ _ D]
     simp
end Go.Proofs.YtacapiamkgkkjaaGreatDoor.cl.pf
namespace Go.Proofs.YtacapiamkgkkjaaGreatDoor.cl.pf
open Go Go.AM
structure HM (h:aV) (T:Nat) (sb:Int->Int->Prop):Prop where
 to:TO T sb
 mt:∀a b:Int,0<=a->a<(T:Int)->0<=b->b<(T:Int)->
  (∃t,f335 h a b=some (t,true)/\f336 h a b=some (t,true)/\sb a t/\sb b t/\∀c,sb a c->sb b c->sb t c)\/
  (∃t,f335 h a b=some (t,false)/\f336 h a b=some (t,false)/\∀c,sb a c->sb b c->False)
def Of (l:List dN):List (Nat×Nat):=l.map λp=>(p.a0.toNat,p.a1.toNat)
def zh (rep:Nat->Nat) (wt:List (Nat×Nat)) (x y:Nat):Prop:=∀E:Nat->Nat->Prop,Equivalence E->(∀a b,rep a=rep b->E a b)->(∀p∈wt,E p.1 p.2)->E x y
def zh.imp {rep l:Nat->Nat} {wt q:List (Nat×Nat)} {x y:Nat} (D:∀a b,rep a=rep b->zh l q a b) (G:∀p∈wt,zh l q p.1 p.2) (h:zh rep wt x y):zh l q x y:=
 λE w z B=>h E w (λa b hab=>D a b hab E w z B) λp I=>G p I E w z B
def zh.yo {rep:Nat->Nat} {wt:List (Nat×Nat)} {x y:Nat} (h:rep x=rep y):zh rep wt x y:=λE _ l _=>l x y h
theorem zh.Lu {rep:Nat->Nat} {wt:List (Nat×Nat)} {p:Nat×Nat} (h:p∈wt):zh rep wt p.1 p.2:=λE _ _ l=>l p h
def zh.symm {rep:Nat->Nat} {wt:List (Nat×Nat)} {x y:Nat} (h:zh rep wt x y):zh rep wt y x:=λE l q w=>l.symm (h E l q w)
theorem zh.trans {rep:Nat->Nat} {wt:List (Nat×Nat)} {x y z:Nat} (h:zh rep wt x y) (B:zh rep wt y z):zh rep wt x z:=λE l q w=>l.trans (h E l q w) (B E l q w)
def zh.done {rep:Nat->Nat} {x y:Nat} (h:zh rep [] x y):rep x=rep y:=
 h (λa b=>rep a=rep b) ⟨λ_=>rfl,λh=>h.symm,λh l=>h.trans l⟩ (λ_ _ h=>h) (λp q=>by cases q)
structure AO (F n:Nat) (l:List cD):Prop where
 zW:Gm l
 ok:∀a∈l,(0<=a.bP/\a.bP<(F:Int))/\0<=a.To/\a.To<(n:Int)
def AO.len {F n:Nat} {l:List cD} (h:AO F n l):l.length<=F:=by
 have:=yR (N:=F) (o:=l.map λa=>a.bP.toNat) (by
  have q:=h.zW;have w:=h.ok;clear h;induction l with
  |nil=>simp
  |cons x l G=>
   have z:=c7.1 q;rw[bM,gF];refine⟨λI=> ?_,G z.2 λa ha=>w a (by simp[ha])⟩
   grind) (λx B=>by
  obtain⟨y,D,rfl⟩:=aG.1 B;have:=(h.ok y D).1
  omega)
 simp_all
def AO.mg {F n:Nat} {x y:List cD} (l:AO F n x) (q:AO F n y):AO F n (mg x y).1:=
 ⟨P3 _ x y (aQ _) l.zW q.zW,λa ha=>((Io _ x y (aQ _)).sub a ha).elim (l.ok a) (q.ok a)⟩
structure JI (T:Nat) (Q:List cD->Prop) (sb:Int->Int->Prop) (U:Gr) (n:Nat) (W:List (Nat×Nat)) (wt:List dN) (par ty:List Int) (ar:List (List cD)) (rep d:Nat->Nat):Prop where
 pi:PI n par rep d
 lt:ty.length=n
 la:ar.length=n
 tr:∀x,x<n->0<=ty.getD x 0/\ty.getD x 0<(T:Int)
 ao:∀x,x<n->Q (ar.getD x [])
 wo:∀p∈wt,(0<=p.a0/\p.a0<(n:Int))/\0<=p.a1/\p.a1<(n:Int)
 sty:∀x,x<n->sb (U.ty x) (ty.getD (rep x) 0)
 sar:∀x,x<n->∀p∈U.sc x,∃a∈ar.getD (rep x) [],a.bP=p.1/\zh rep (Of wt) p.2 a.To.toNat
 seq:∀p∈W,zh rep (Of wt) p.1 p.2
 dK:∀C m,Det C->U8 sb U n W C m->(∀x,x<n->m (rep x)=m x)/\(∀x,x<n->rep x=x->sb (ty.getD x 0) (C.ty (m x))/\∀a∈ar.getD x [],(a.bP,m a.To.toNat)∈C.sc (m x))/\∀p∈Of wt,m p.1=m p.2
def cnt (n:Nat) (rep:Nat->Nat):Nat:=((List.range n).filter λx=>rep x==x).length
section
variable {T:Nat} {Q:List cD->Prop} {sb:Int->Int->Prop} {U:Gr} {n:Nat} {W:List (Nat×Nat)} {wt:List dN} {par ty:List Int} {ar:List (List cD)} {rep d:Nat->Nat}
theorem sS (p:dN):Of (wt++[p])=Of wt++[(p.a0.toNat,p.a1.toNat)]:=by simp[Of]
def JI.rD (h:JI T Q sb U n W wt par ty ar rep d) {l:List Int} {q:Nat->Nat} (w:PI n l rep q):JI T Q sb U n W wt l ty ar rep q:={ h with pi:=w }
def JI.skip {p:dN} (h:JI T Q sb U n W (wt++[p]) par ty ar rep d) (e:rep p.a0.toNat=rep p.a1.toNat):JI T Q sb U n W wt par ty ar rep d:=by
 have key:∀{x y},zh _ (Of (wt++[p])) x y->zh _ _ x y:=λ{x y}=>zh.imp (λa b hab=> .yo hab) λq l=>by
  rw[sS] at l;rcases bf.1 l with l|l
  .exact .Lu l
  .rw[bZ] at l;subst l;exact .yo e
 refine { h with wo:=λq l=>h.wo q (by simp[l]),sar:=λx I q l=> ?_,seq:=λq l=>key (h.seq q l),dK:=λC m D G=> ?_ }
 .obtain⟨a,w,z,B⟩:=h.sar x I q l;grind
 .obtain⟨w,z,B⟩:=h.dK C m D G;exact⟨w,z,λq l=>B q (by rw[sS];grind)⟩
def JI.mem {wt':List dN} (h:JI T Q sb U n W wt par ty ar rep d) (z:∀p,p∈wt↔p∈wt'):JI T Q sb U n W wt' par ty ar rep d:=by
 have key:∀{x y},zh rep (Of _) x y->zh _ (Of _) x y:=λ{x y}=>zh.imp (λa b hab=> .yo hab) λq l=>by obtain⟨p,w,rfl⟩:=aG.1 l;exact .Lu (aG.2 ⟨p,(z p).1 w,rfl⟩)
 refine { h with wo:=λq l=>h.wo q ((z q).2 l),sar:=λx N q l=> ?_,seq:=λq l=>key (h.seq q l),dK:=λC m I L=> ?_ }
 .obtain⟨a,B,D,G⟩:=h.sar x N q l;grind
 .obtain⟨B,D,G⟩:=h.dK C m I L;refine⟨B,D,λq l=> ?_⟩;obtain⟨p,w,rfl⟩:=aG.1 l;exact G _ (aG.2 ⟨p,(z p).2 w,rfl⟩)
def JI.swap {p:dN} (h:JI T Q sb U n W (wt++[p]) par ty ar rep d):JI T Q sb U n W (wt++[⟨p.a1,p.a0⟩]) par ty ar rep d:=by
 have key:∀{x y},zh rep (Of (wt++[p])) x y->zh _ (Of (wt++[⟨p.a1,p.a0⟩])) x y:=λ{x y}=>zh.imp (λa b hab=> .yo hab) λq l=>by
  rw[sS] at l⊢;rcases bf.1 l with l|l
  .exact .Lu (by simp[l])
  .rw[bZ] at l;subst l;exact zh.symm (zh.Lu (p:=(p.a1.toNat,p.a0.toNat)) ai)
 refine { h with wo:=λq l=> ?_,sar:=λx I q l=> ?_,seq:=λq l=>key (h.seq q l),dK:=λC m D G=> ?_ }
 .rcases bf.1 l with l|l
  .exact h.wo q (by simp[l])
  .have:=h.wo p ai;simp_all
 .obtain⟨a,w,z,B⟩:=h.sar x I q l;grind
 .obtain⟨w,z,B⟩:=h.dK C m D G;refine⟨w,z,λq l=> ?_⟩;rw[sS] at l;rcases bf.1 l with l|l
  .grind[sS]
  .rw[bZ] at l;subst l;exact(B (p.a0.toNat,p.a1.toNat) (by rw[sS];simp)).symm
def JI.start {a b:Nat} (h:JI T Q sb U n W [] par ty ar rep d) (ha:a<n) (hb:b<n):JI T Q sb U n (W++[(a,b)]) [⟨a,b⟩] par ty ar rep d:=by
 have key:∀{x y},zh rep (Of []) x y->zh _ (Of [⟨(a),b⟩]) x y:=λ{x y}=>zh.imp (λa b hab=> .yo hab) λq l=>by cases l
 refine { h with wo:=λq l=> ?_,sar:=λx L q l=> ?_,seq:=λq l=> ?_,dK:=λC m G w=> ?_ }
 .simp_all
 .obtain⟨c,z,B,D⟩:=h.sar x L q l;grind
 .rcases bf.1 l with l|l
  .exact key (h.seq q l)
  grind[zh.Lu,Of]
 .obtain⟨z,B,D⟩:=h.dK C m G { w with eq:=λp I=>w.eq p (by simp[I]) };refine⟨z,B,λq l=> ?_⟩;simp[Of,bM,fN,bZ] at l;subst l;exact w.eq _ ai
section
variable {p:dN} (h:JI T Q sb U n W (wt++[p]) par ty ar rep d) {a b:Nat} (ha:rep p.a0.toNat=a) (hb:rep p.a1.toNat=b) (hab:a≠b)
include h
theorem JI.pn:p.a0.toNat<n/\p.a1.toNat<n:=by have:=h.wo p ai;omega
include ha hb
theorem JI.rn:a<n/\b<n/\rep a=a/\rep b=b:=by obtain⟨l,q⟩:=h.pn;have w:=h.pi.rl _ l;have z:=h.pi.rl _ q;have B:=h.pi.rr _ l;have D:=h.pi.rr _ q;simp_all
theorem JI.meq {C:Gr} {m:Nat->Nat} (q:Det C) (w:U8 sb U n W C m):m a=m b:=by obtain⟨z,B⟩:=h.pn;obtain⟨e1,_,l⟩:=h.dK C m q w;have:=l (p.a0.toNat,p.a1.toNat) (by rw[sS];simp);grind
theorem JI.no (D:∀c,sb (ty.getD a 0) c->sb (ty.getD b 0) c->False) (C:Gr) (m:Nat->Nat) (l:Det C) (q:U8 sb U n W C m):False:=by obtain⟨z,G,B,I⟩:=h.rn ha hb;obtain⟨_,w,_⟩:=h.dK C m l q;refine D _ (w a z B).1 ?_;rw[h.meq ha hb l q];simp_all
include hab
theorem JI.merge (hQ:∀l,Q l->∀c∈l,0<=c.To/\c.To<(n:Int)) (hT:∀{a b c},sb a b->sb b c->sb a c) {r:List cD×List dN} (M:MG (ar.getD a []) (ar.getD b []) r) (w:Q r.1) {t:Int} (t0:0<=t/\t<(T:Int)) (t1:sb (ty.getD a 0) t) (t2:sb (ty.getD b 0) t) (t3:∀c,sb (ty.getD a 0) c->sb (ty.getD b 0) c->sb t c):
  JI T Q sb U n W (wt++r.2) (par.set b a) (ty.set a t) (ar.set a r.1) (λx=>if rep x=b then a else rep x) (λx=>if rep x=b then d x+d a+1 else d x):=by
 obtain⟨D,V,I,N⟩:=h.rn ha hb;have key:∀{x y},zh rep (Of (wt++[p])) x y->zh (λx=>if rep x=b then a else rep x) (Of (wt++r.2)) x y:=λ{x y}=>zh.imp (λu v huv=> .yo (by show(if _ then _ else _)=if _ then _ else _;rw[huv])) λq w=>by
  rw[sS] at w;rcases bf.1 w with w|w
  .exact .Lu (by unfold Of at *;rw[cE];simp[w])
  .rw[bZ] at w;subst w;refine .yo ?_;show(if _ then _ else _)=if _ then _ else _
   rw[ha,hb,aA hab,aC rfl]
 have Pt:b<par.length:=by rw[h.pi.len];exact V
 have hne:∀x,rep x=b->x≠a:=λx e z=>hab (by rw[<-e,z,I])
 refine⟨⟨by rw[iO];exact h.pi.len,λx B=> ?_,λx B=> ?_,λx B=> ?_,λx B=> ?_⟩,by rw[iO];exact h.lt,by rw[iO];exact h.la,λx B=> ?_,λx B=> ?_,λq w=> ?_,λx B=> ?_,λx B q w=> ?_,λq w=>key (h.seq q w),λC m hC hs=> ?_⟩
 .by_cases e:b=x
  .subst e;refine⟨a,D,by rw[fI,aC ⟨rfl,Pt⟩],?_, .inr ?_⟩
   .show(if _ then _ else _)=if _ then _ else _
    rw[I,N,aA hab,aC rfl]
   .show(if _ then _ else _)<if _ then _ else _
    rw[I,N,aA hab,aC rfl];omega
  .obtain⟨y,hy,g1,g2,g3⟩:=h.pi.up x B;refine⟨y,hy,by rw[fI,aA (λh=>e h.1)];exact g1,?_,?_⟩
   .show(if _ then _ else _)=if _ then _ else _
    rw[g2]
   .refine g3.imp id λg3=> ?_
    show(if _ then _ else _)<if _ then _ else _
    rw[g2];by_cases z:rep x=b
    .rw[aC z,aC z];omega
    .rw[aA z,aA z];exact g3
 .show _↔(if rep x=b then a else rep x)=x;by_cases e:b=x
  .subst e;rw[fI,aC ⟨rfl,Pt⟩,aC N];omega
  .rw[fI,aA (λh=>e h.1),h.pi.fix x B];by_cases z:rep x=b
   .rw[aC z];have:=hne x z;omega
   .rw[aA z]
 .show(if _ then _ else _)<n;split
  .exact D
  .exact h.pi.rl x B
 .show(if rep (if rep x=b then a else rep x)=b then a else rep (if rep x=b then a else rep x))=if rep x=b then a else rep x
  by_cases z:rep x=b
  .rw[aC z,I,aA hab]
  .rw[aA z,h.pi.rr x B,aA z]
 .rw[fI];split
  .exact t0
  .exact h.tr x B
 .rw[fI];split
  .exact w
  .exact h.ao x B
 .rcases bf.1 w with w|w
  .exact h.wo q (by simp[w])
  .obtain⟨u,hu,v,hv,_,rfl⟩:=M.pair q w;exact⟨hQ _ (h.ao a D) u hu,hQ _ (h.ao b V) v hv⟩
 .have h0:=h.sty x B;show sb _ ((ty.set a t).getD (if rep x=b then a else rep x) 0);have G:a<ty.length:=by rw[h.lt];exact D
  by_cases z:rep x=b
  .rw[aC z,fI,aC ⟨rfl,G⟩];rw[z] at h0;exact hT h0 t2
  .rw[aA z];by_cases L:a=rep x
   .rw[<-L,fI,aC ⟨rfl,G⟩];rw[<-L] at h0;exact hT h0 t1
   .rw[fI,aA (λh=>L h.1)];exact h0
 .obtain⟨c,S,h2,h3⟩:=h.sar x B q w;have G:a<ar.length:=by rw[h.la];exact D
  show∃c∈(ar.set a _).getD (if rep x=b then a else rep x) [],_;by_cases z:rep x=b
  .rw[aC z,fI,aC ⟨rfl,G⟩];rw[z] at S;obtain⟨c',m1,m2,m3⟩:=M.right c S;refine⟨c',m1,by rw[m2,h2],?_⟩;rcases m3 with rfl|m3
   .exact key h3
   .refine(key h3).trans (zh.symm (zh.Lu (p:=(c'.To.toNat,c.To.toNat)) ?_));unfold Of;rw[cE];exact gX _ (aG.2 ⟨_,m3,rfl⟩)
  .rw[aA z];by_cases L:a=rep x
   .rw[<-L,fI,aC ⟨rfl,G⟩];rw[<-L] at S;exact⟨c,M.left c S,h2,key h3⟩
   .rw[fI,aA (λh=>L h.1)];exact⟨c,S,h2,key h3⟩
 .obtain⟨e1,z,L⟩:=h.dK C m hC hs;have hm:=h.meq ha hb hC hs;have G:a<ar.length:=by rw[h.la];exact D
  have hal':a<ty.length:=by rw[h.lt];exact D
  obtain⟨a1,a2⟩:=z a D I;obtain⟨b1,b2⟩:=z b V N;rw[<-hm] at b1 b2;refine⟨λx B=> ?_,λx B P=> ?_,λq w=> ?_⟩
  .show m (if rep x=b then a else rep x)=m x;by_cases e:rep x=b
   .rw[aC e,hm,<-e,e1 x B]
   .rw[aA e,e1 x B]
  .have P:(if rep x=b then a else rep x)=x:=P;by_cases e:rep x=b
   .rw[aC e] at P;exact absurd P.symm (hne x e)
   .rw[aA e] at P;by_cases e4:a=x
    .subst e4;rw[fI,aC ⟨rfl,hal'⟩,fI,aC ⟨rfl,G⟩];exact⟨t3 _ a1 b1,λc hc=>(M.sub c hc).elim (a2 c) (b2 c)⟩
    .rw[fI,aA (λh=>e4 h.1),fI,aA (λh=>e4 h.1)];exact z x B P
  .unfold Of at w;rw[cE] at w;rcases bf.1 w with w|w
   .exact L q (by rw[sS];exact dx _ w)
   .obtain⟨r',P,rfl⟩:=aG.1 w;obtain⟨u,hu,v,hv,huv,rfl⟩:=M.pair r' P;have S:=a2 u hu;have h2:=b2 v hv;rw[<-huv] at h2;exact(hC _).RX S h2
theorem Nv:cnt n (λx=>if rep x=b then a else rep x)+1<=cnt n rep:=by
 obtain⟨q,l,w,z⟩:=h.rn ha hb;have e:(List.range n).filter (λx=>(if rep x=b then a else rep x)==x)=((List.range n).filter λx=>rep x==x).filter λx=>x !=b:=by
  rw[EB];refine mE λx _=> ?_
  by_cases B:rep x=b<;>grind
 unfold cnt;rw[e];exact List.length_filter_lt_length_iff_exists.2 ⟨b,dw.2 ⟨gL.2 l,by simp_all⟩,ai⟩
end
end
def h443 {h:aV} {T F n:Nat} {sb:Int->Int->Prop} (H:HM h T sb) {U:Gr} {W:List (Nat×Nat)} {o:List dN} (hF:F<=1000000):∀(c k:Nat) (wt:List dN) (par ty:List Int) (ar:List (List cD)) (rep d:Nat->Nat),
  cnt n rep<=c->wt.length<=k->wt.length+cnt n rep *F<=500000000->JI T (AO F n) sb U n W wt par ty ar rep d->
  (∃q z w G d',AB wt o h.Types h.bG par ty ar=some (true,q,z,w)/\JI T (AO F n) sb U n W [] q z w G d')\/
  ((∃q z w,AB wt o h.Types h.bG par ty ar=some (false,q,z,w))/\∀C m,Det C->U8 sb U n W C m->False):=by
 intro c;induction c using Nat.strongRecOn with
 |ind c ihc=>
 intro k;induction k with
 |zero=>intro wt par ty ar rep d hc hk hb J;have e:wt=[]:=ou.1 af;subst e;exact .inl ⟨par,ty,ar,rep,d,Wg (by rw[cond_neg (by rfl)]),J⟩
 |succ k ihk=>
  intro wt par ty ar rep d hc hk hb J;rcases List.eq_nil_or_concat wt with rfl|⟨L,p,rfl⟩
  .exact .inl ⟨par,ty,ar,rep,d,Wg (by rw[cond_neg (by rfl)]),J⟩
  .rw[List.concat_eq_append] at *;have hl:(L++[p]).length=L.length+1:=ai;rw[hl] at hk hb;obtain⟨⟨p1,p2⟩,p3,p4⟩:=J.wo p ai;obtain⟨B,hx0⟩:=fW p1;obtain⟨D,hx1⟩:=fW p3;have hx0n:B<n:=af;have hx1n:D<n:=af;have r0:p.a0.toNat=B:=af;have r1:p.a1.toNat=D:=af;obtain⟨pa,f1,P1⟩:=c485 (TL:=h.Types) (FL:=h.bG) (ty:=ty) (ar:=ar) hx0n J.pi;obtain⟨V,f2,P2⟩:=c485 (TL:=h.Types) (FL:=h.bG) (ty:=ty) (ar:=ar) hx1n P1;have J2:=J.rD P2;have hgN:∀{R:Type} (k:dN->Option R),ef (L++[p]) L.length k=k p:=λk=>iE ai k
   have step:∀(r:Bool×List Int×List Int×List (List cD)),(bif(((rep B:Nat):Int) !=((rep D:Nat):Int)) then(
     HP (f486 ((rep B:Nat):Int) ((rep D:Nat):Int) h.Types h.bG L V ty ar) λy215 w218 w219 w220 w221=>bif(!y215) then some (false,w219,w220,w221) else AB w218 o h.Types h.bG w219 w220 w221)
     else AB L o h.Types h.bG V ty ar)=some r->AB (L++[p]) o h.Types h.bG par ty ar=some r:=by
    intro r hr;refine Wg ?_;rw[hl,cond_pos (by rw[bN];omega),qO af,BG af,aS,hgN,b9 ⟨af,af⟩,hx0,f1,cL,hx1,f2,cL,mK rfl];exact hr
   by_cases P:rep B=rep D
   .have J3:=J2.skip (by rw[r0,r1];exact P);rcases ihk L V ty ar rep d hc af af J3 with⟨q,z,w,G,d',g1,g2⟩|⟨⟨q,z,w,g1⟩,g2⟩
    .exact .inl ⟨q,z,w,G,d',step _ (by rw[cond_neg (by rw[P];simp)];exact g1),g2⟩
    .exact .inr ⟨⟨q,z,w,step _ (by rw[cond_neg (by rw[P];simp)];exact g1)⟩,g2⟩
   .have ha:rep p.a0.toNat=rep B:=by rw[r0]
    have S:rep p.a1.toNat=rep D:=by rw[r1]
    obtain⟨N,I,hra,hrb⟩:=J2.rn ha S;have hal:rep B<ar.length:=by rw[J.la];exact N
    have KO:rep D<ar.length:=by rw[J.la];exact I
    have X6:rep B<ty.length:=by rw[J.lt];exact N
    have hbt:rep D<ty.length:=by rw[J.lt];exact I
    have hbp:rep D<V.length:=by rw[P2.len];exact I
    have hb1:(((rep B:Nat):Int) !=((rep D:Nat):Int))=true:=by rw[qs];omega
    have ta:=J.tr _ N;have tb:=J.tr _ I;rcases H.mt _ _ ta.1 ta.2 tb.1 tb.2 with⟨t,m1,m2,m3,m4,m5⟩|⟨t,m1,m2,m3⟩
    .have la:=(J.ao _ N).len;have lb:=(J.ao _ I).len;have M:=Io _ (ar.getD (rep B) []) (ar.getD (rep D) []) (aQ _);have J3:=J2.merge ha S P (λl hl c hc=>(hl.ok c hc).2) (λh1 h2=>H.to.trans h1 h2) M ((J.ao _ N).mg (J.ao _ I)) (H.to.rr m3) m3 m4 m5;have hcm:=Nv J2 ha S P;have f3:f486 ((rep B:Nat):Int) ((rep D:Nat):Int) h.Types h.bG L V ty ar=some (true,L++(mg (ar.getD (rep B) []) (ar.getD (rep D) [])).2,V.set (rep D) ((rep B:Nat):Int),ty.set (rep B) t,ar.set (rep B) (mg (ar.getD (rep B) []) (ar.getD (rep D) [])).1):=by
      refine e486 ?_;rw[uA X6,uA hbt];rw[show(aV.mk h.Types h.bG)=h from rfl,m1,ak,cond_neg (by rfl),uA hbp,uA X6,rdL hal,rdL KO,aS,aS,h486 hal _ _ _ _ _ (aQ _) (by simp only[fK];omega) af,dU]
     have hmul:(cnt n (λx=>if rep x=rep D then rep B else rep x)+1) *F<=cnt n rep *F:=kC F hcm;rw[nX] at hmul;have hml:=M.le;rcases ihc _ (fo (Nat.lt_of_succ_le hcm) hc) (L++(mg (ar.getD (rep B) []) (ar.getD (rep D) [])).2).length _ _ _ _ _ _ (aQ _) (aQ _) (by rw[bR];omega) J3 with⟨q,z,w,G,d',g1,g2⟩|⟨⟨q,z,w,g1⟩,g2⟩
     .exact .inl ⟨q,z,w,G,d',step _ (by rw[cond_pos hb1,f3,vZ,cond_neg (by rfl)];exact g1),g2⟩
     .exact .inr ⟨⟨q,z,w,step _ (by rw[cond_pos hb1,f3,vZ,cond_neg (by rfl)];exact g1)⟩,g2⟩
    .have f3:f486 ((rep B:Nat):Int) ((rep D:Nat):Int) h.Types h.bG L V ty ar=some (false,L,V,ty,ar):=by
      refine e486 ?_;rw[uA X6,uA hbt];rw[show(aV.mk h.Types h.bG)=h from rfl,m1,ak,cond_pos (by rfl)]
     exact .inr ⟨⟨_,_,_,step _ (by rw[cond_pos hb1,f3,vZ,cond_pos (by rfl)])⟩,J2.no ha S m3⟩
def ab2 (n:Nat) (rep:Nat->Nat):cnt n rep<=n:=by grind[cnt]
def c443 {h:aV} {T F n:Nat} {sb:Int->Int->Prop} (H:HM h T sb) {U:Gr} {W:List (Nat×Nat)} (I:F<=1000000) {par ty:List Int} {ar:List (List cD)} {rep d:Nat->Nat} {a b:Nat} (ha:a<n) (hb:b<n) (N:n *F<=400000000) (J:JI T (AO F n) sb U n W [] par ty ar rep d):
  (∃l w q z B,f443 (a:Int) (b:Int) h.Types h.bG par ty ar=some (true,l,w,q)/\JI T (AO F n) sb U n (W++[(a,b)]) [] l w q z B)\/
  ((∃l w q,f443 (a:Int) (b:Int) h.Types h.bG par ty ar=some (false,l,w,q))/\∀C m,Det C->U8 sb U n (W++[(a,b)]) C m->False):=by
 have L:cnt n rep *F<=n *F:=kC F (ab2 n _);rcases h443 H (o:=[]) I _ 1 _ _ _ _ _ d (aQ _) ai (by grind) (J.start ha hb) with⟨l,w,q,z,B,D,G⟩|⟨⟨l,w,q,D⟩,G⟩
 .grind[e443]
 simp_all[e443]
def mP (ty:List Int) (ar:List (List cD)) (rep:Nat->Nat):Gr:=⟨λx=>(ar.getD x []).map λa=>(a.bP,rep a.To.toNat),λx=>ty.getD x 0⟩
def JI.uni {T F n:Nat} {sb:Int->Int->Prop} {U:Gr} {W:List (Nat×Nat)} {par ty:List Int} {ar:List (List cD)} {rep d:Nat->Nat} (J:JI T (AO F n) sb U n W [] par ty ar rep d) (N:Bd U.sc n):ZJ T F sb U n W (mP ty ar rep) rep:=by
 refine⟨⟨λx l p q=> ?_,λx l=> ?_,λx l p q=> ?_,λx l=>J.tr x l⟩,J.pi.rl,J.pi.rr,λx l p q=> ?_,⟨J.sty,λx l p q=> ?_,λp q=>(J.seq p q).done⟩,λC m I L x l=> ?_⟩
 .obtain⟨a,ha,rfl⟩:=aG.1 q;exact J.pi.rl _ (by have:=((J.ao x l).ok a ha).2;omega)
 .show CU (List.map _ _);unfold CU;rw[ic];exact(J.ao x l).zW
 .obtain⟨a,ha,rfl⟩:=aG.1 q;exact((J.ao x l).ok a ha).1
 .obtain⟨a,ha,rfl⟩:=aG.1 q;exact J.pi.rr _ (by have:=((J.ao x l).ok a ha).2;omega)
 .obtain⟨a,ha,D,G⟩:=J.sar x l p q;refine aG.2 ⟨a,ha,?_⟩;rw[D,G.done]
 .obtain⟨e1,B,_⟩:=J.dK C m I L;obtain⟨w,z⟩:=B (rep x) (J.pi.rl x l) (J.pi.rr x l);rw[e1 x l] at w z;refine⟨e1 x l,w,λp q=> ?_⟩;obtain⟨a,ha,rfl⟩:=aG.1 q;show(a.bP,m (rep a.To.toNat))∈_;rw[e1 _ (by have:=((J.ao _ (J.pi.rl x l)).ok a ha).2;omega)];exact z a ha
