/- THE ABSTRACT MACHINE. -/
import Derived.Test.YthppjmoncapdfaaGreatDoorAmDefs
set_option linter.all false
namespace Go.AM
abbrev Mu:=Nat->Nat->Option Value
def qI (l q:List Value):Value:= .tuple #[.tuple l.toArray, .tuple q.toArray]
def y5 (w:World) (b j:Nat):Option Value:=
 match w.heap[b]? with
 |some (.cells c _ _)=>(c[j]?).bind λv=>if v.oneCell'=true then some v else none
 |some (.map l _)=>if j=0 then some (qI (l.toList.map (·.key)) (l.toList.map (·.val))) else none
 |_=>none
def oW {w:World} {b j:Nat} {v:Value} (h:y5 w b j=some v) (l:v.oneCell'=true):w.cell? ⟨b,j,none⟩=some v:=by
 unfold y5 at h;unfold World.cell?;split at h
 .rename_i c t q z;simp only[z];obtain⟨u,B,h⟩:=bZ.1 h;split at h
  .injection h with h;subst h;simpa using B
  .cases h
 .split at h
  .injection h with h;subst h;simp[qI,Value.oneCell'] at l
  .cases h
 .cases h
def oZ {w:World} {b j:Nat} {v:Value} (h:w.cell? ⟨b,j,none⟩=some v) (z:v.oneCell'=true):y5 w b j=some v:=by
 unfold World.cell? at h;unfold y5;split at h
 .rename_i c t q B;simp only[B];have l:c[j]? =some v:=by simpa using h
  simp[l,z]
 .cases h
def R9 {w:World} {b:Nat} {D B:List Value} (h:y5 w b 0=some (qI D B)):∃q l,w.heap[b]? =some (.map q l)/\D=q.toList.map (·.key)/\B=q.toList.map (·.val):=by
 unfold y5 at h;split at h
 .obtain⟨u,K,h⟩:=bZ.1 h;split at h
  .rename_i z;injection h with h;subst h;simp[qI,Value.oneCell'] at z
  .cases h
 .rename_i H l I;simp only[js,aB,qI,Value.tuple.injEq] at h;have z:=aC Array.toList h;simp only[cU,Value.tuple.injEq,dL] at z;have F:=aC Array.toList z.1;have G:=aC Array.toList z.2;exact⟨H,l,I,by simpa using F.symm,by simpa using G.symm⟩
 .cases h
def Cr {w:World} {b:Nat} {l:Array MapEntry} {q:Nat} (h:w.heap[b]? =some (.map l q)):y5 w b 0=some (qI (l.toList.map (·.key)) (l.toList.map (·.val))):=by unfold y5;rw[h];simp
def jx {w:World} {b j:Nat} {v:Value} (h:y5 w b j=some v):b<w.heap.size:=by
 unfold y5 at h;split at h
 .rename_i c t q l;exact(cO.1 l).1
 .rename_i B z l;exact(cO.1 l).1
 .cases h
theorem dW {w l:World} {b:Nat} (h:l.heap[b]? =w.heap[b]?) (j:Nat):y5 l b j=y5 w b j:=by unfold y5;rw[h]
mutual
def rep (μ:Mu):AV->Value->Prop
 | .bool b,v=>v= .bool b
 | .int k n,v=>v= .int k n
 | .str s,v=>v= .string ⟨s.toArray⟩
 | .c4 sz xs,v=>∃A c,v= .slice A xs.length c/\xs.length<=c/\c<=maxLen/\(xs.length=0\/∃b off,A=some ⟨b,off,none⟩/\iI μ sz b xs off)
 | .agg cs,v=>∃vs:List Value,v= .agg vs.toArray/\bl μ cs vs/\∀u∈vs,u.oneCell'=true
 | .fn f caps,v=>∃vs:List Value,v= .func (.func f) #[] vs.toArray/\bl μ caps vs
 | .jy cs,v=>∃vs:List Value,v= .tuple vs.toArray/\bl μ cs vs
 | .ref cs,v=>∃(b off:Nat) (vs:List Value),v= .pointer (some ⟨b,off,none⟩)/\bl μ cs vs/\(∀u∈vs,u.oneCell'=true)/\∀j u,vs[j]? =some u->μ b (off+j)=some u
 | .self _,_=>False
 | .yB,v=>v= .pointer none
 | .nw,v=>v= .slice none 0 0
 | .hole,v=>v.oneCell'=true/\v.cells= #[v]
 | .mp ks es,v=>(v= .map none/\ks=[]/\es=[])\/∃(b:Nat) (kv ev:List Value),v= .map (some b)/\bl μ ks kv/\bl μ es ev/\μ b 0=some (qI kv ev)
def bl (μ:Mu):List AV->List Value->Prop
 |[],vs=>vs=[]
 |x::xs,vs=>∃u us,vs=u::us/\rep μ x u/\bl μ xs us
def iI (μ:Mu) (sz b:Nat):List (List AV)->Nat->Prop
 |[],_=>True
 |x::xs,off=>(∃vs:List Value,bl μ x vs/\(∀u∈vs,u.oneCell'=true)/\vs.length=sz/\∀j u,vs[j]? =some u->μ b (off+j)=some u)/\iI μ sz b xs (off+sz)
end
def gV (μ:Mu) (q:List AV) (l:List Value):Prop:=bl μ q l/\∀u∈l,u.oneCell'=true
def Mu.le (μ l:Mu):Prop:=∀b j v,μ b j=some v->l b j=some v
theorem Mu.le.refl (μ:Mu):μ.le μ:=λ_ _ _ h=>h
def Mu.le.trans {a b c:Mu} (h:a.le b) (k:b.le c):a.le c:=λx y v l=>k _ _ _ (h _ _ _ l)
mutual
theorem qP {μ μ':Mu} (h:μ.le μ'):∀(x:AV) (v:Value),rep μ x v->rep μ' x v
 | .bool b,v=>λhv=>by simpa[rep] using hv
 | .int k n,v=>λhv=>by simpa[rep] using hv
 | .str s,v=>λhv=>by simpa[rep] using hv
 | .c4 sz xs,v=>λhv=>by rw[rep] at hv⊢;obtain⟨A,c,e,h1,h2,h3⟩:=hv;exact⟨A,c,e,h1,h2,h3.imp id λ⟨b,off,ea,hr⟩=>⟨b,off,ea,An h sz b xs off hr⟩⟩
 | .agg cs,v=>λhv=>by rw[rep] at hv⊢;obtain⟨vs,e,h1,h2⟩:=hv;exact⟨vs,e,dK h cs vs h1,h2⟩
 | .fn f caps,v=>λhv=>by rw[rep] at hv⊢;obtain⟨vs,e,h1⟩:=hv;exact⟨vs,e,dK h caps vs h1⟩
 | .jy cs,v=>λhv=>by rw[rep] at hv⊢;obtain⟨vs,e,h1⟩:=hv;exact⟨vs,e,dK h cs vs h1⟩
 | .ref cs,v=>λhv=>by rw[rep] at hv⊢;obtain⟨b,off,vs,e,h1,h2,h3⟩:=hv;exact⟨b,off,vs,e,dK h cs vs h1,h2,λj u hu=>h _ _ _ (h3 j u hu)⟩
 | .self n,v=>λhv=>by rw[rep] at hv;exact hv.elim
 | .yB,v=>λhv=>by simpa[rep] using hv
 | .nw,v=>λhv=>by simpa[rep] using hv
 | .hole,v=>λhv=>by simpa[rep] using hv
 | .mp ks es,v=>λhv=>by
  rw[rep] at hv⊢;rcases hv with hv|⟨b,kv,ev,e,h1,h2,h3⟩
  .exact .inl hv
  .exact .inr ⟨b,kv,ev,e,dK h ks kv h1,dK h es ev h2,h _ _ _ h3⟩
theorem dK {μ μ':Mu} (h:μ.le μ'):∀(xs:List AV) (vs:List Value),bl μ xs vs->bl μ' xs vs
 |[],vs=>λhv=>by simpa[bl] using hv
 |x::xs,vs=>λhv=>by rw[bl] at hv⊢;obtain⟨u,us,e,h1,h2⟩:=hv;exact⟨u,us,e,qP h x u h1,dK h xs us h2⟩
theorem An {μ μ':Mu} (h:μ.le μ') (sz b:Nat):∀(xs:List (List AV)) (off:Nat),iI μ sz b xs off->iI μ' sz b xs off
 |[],off=>λ_=>by simp[iI]
 |x::xs,off=>λhv=>by rw[iI] at hv⊢;obtain⟨⟨vs,h1,h2,h3,h4⟩,h5⟩:=hv;exact⟨⟨vs,dK h x vs h1,h2,h3,λj u hu=>h _ _ _ (h4 j u hu)⟩,An h sz b xs _ h5⟩
end
def gV.mono {μ μ':Mu} (h:μ.le μ') {l:List AV} {q:List Value} (k:gV μ l q):gV μ' l q:=⟨dK h _ _ k.1,k.2⟩
section
variable {μ:Mu}
theorem cF:bl μ [] []:=by simp[bl]
theorem bq {x:AV} {xs:List AV} {v:Value} {l:List Value} (h:rep μ x v) (k:bl μ xs l):bl μ (x::xs) (v::l):=by rw[bl];exact⟨v,l,rfl,h,k⟩
theorem kB {xs:List AV} {l:List Value} (h:bl μ xs l):l.length=xs.length:=by induction xs generalizing l with
 |nil=>rw[bl] at h;subst h;rfl
 |cons x xs w=>rw[bl] at h;obtain⟨u,z,rfl,_,q⟩:=h;simp[w q]
def ow {xs:List AV} {q:List Value} (h:bl μ xs q) {i:Nat} {x:AV} (l:xs[i]? =some x):∃v,q[i]? =some v/\rep μ x v:=by induction xs generalizing q i with
 |nil=>simp at l
 |cons y xs F=>rw[bl] at h;obtain⟨u,G,rfl,w,z⟩:=h;cases i with
  |zero=>simp at l;subst l;exact⟨u,by simp,w⟩
  |succ i=>simp at l;obtain⟨v,D,B⟩:=F z l;exact⟨v,by simpa using D,B⟩
theorem kA {xs w:List AV} {l q:List Value} (h:bl μ xs l) (k:bl μ w q):bl μ (xs++w) (l++q):=by induction xs generalizing l with
 |nil=>rw[bl] at h;subst h;simpa using k
 |cons x xs D=>rw[bl] at h;obtain⟨u,F,rfl,z,B⟩:=h;exact bq z (D B)
def Iv {xs:List AV} {l:List Value} (h:bl μ xs l) (n:Nat):bl μ (xs.drop n) (l.drop n):=by induction n generalizing xs l with
 |zero=>simpa using h
 |succ n w=>cases xs with
  |nil=>rw[bl] at h;subst h;simp[bl]
  |cons x xs=>rw[bl] at h;obtain⟨u,z,rfl,_,q⟩:=h;simpa using w q
def Iy {xs:List AV} {l:List Value} (h:bl μ xs l) (n:Nat):bl μ (xs.take n) (l.take n):=by induction n generalizing xs l with
 |zero=>simp[bl]
 |succ n z=>cases xs with
  |nil=>rw[bl] at h;subst h;simp[bl]
  |cons x xs=>rw[bl] at h;obtain⟨u,B,rfl,q,w⟩:=h;simpa using bq q (z w)
theorem gV.drop {l:List AV} {q:List Value} (h:gV μ l q) (n:Nat):gV μ (l.drop n) (q.drop n):=
 ⟨Iv h.1 n,λu w=>h.2 u (tH w)⟩
theorem gV.take {l:List AV} {q:List Value} (h:gV μ l q) (n:Nat):gV μ (l.take n) (q.take n):=
 ⟨Iy h.1 n,λu w=>h.2 u (wS w)⟩
def gV.append {l q:List AV} {z w:List Value} (h:gV μ l z) (k:gV μ q w):gV μ (l++q) (z++w):=
 ⟨kA h.1 k.1,λu B=>(bn.1 B).elim (h.2 u) (k.2 u)⟩
def gV.length {l:List AV} {q:List Value} (h:gV μ l q):q.length=l.length:=kB h.1
def DY {x:AV} {v:Value} (h:rep μ x v) (F:∀q,x≠ .jy q):gV μ x.cells v.cells.toList:=by cases x with
 |agg z=>rw[rep] at h;obtain⟨q,rfl,B,D⟩:=h;exact⟨by simpa[AV.cells,Value.cells] using B,by simpa[Value.cells] using D⟩
 |jy q=>exact absurd rfl (F q)
 |c4 N xs=>have l:=h;rw[rep] at l;obtain⟨A,c,rfl,_⟩:=l;exact⟨bq h cF,by simp[Value.cells,Value.oneCell']⟩
 |fn f w=>have l:=h;rw[rep] at l;obtain⟨q,rfl,_⟩:=l;exact⟨bq h cF,by simp[Value.cells,Value.oneCell']⟩
 |ref z=>have l:=h;rw[rep] at l;obtain⟨b,G,q,rfl,_⟩:=l;exact⟨bq h cF,by simp[Value.cells,Value.oneCell']⟩
 |self n=>rw[rep] at h;exact h.elim
 |yB=>have l:=h;rw[rep] at l;subst l;exact⟨bq h cF,by simp[Value.cells,Value.oneCell']⟩
 |nw=>have l:=h;rw[rep] at l;subst l;exact⟨bq h cF,by simp[Value.cells,Value.oneCell']⟩
 |hole=>have l:=h;rw[rep] at l;rw[l.2];exact⟨bq h cF,by simp[l.1]⟩
 |mp K H=>
  have l:=h;rw[rep] at l;rcases l with⟨rfl,_⟩|⟨b,L,I,rfl,_⟩
  .exact⟨bq h cF,by simp[Value.cells,Value.oneCell']⟩
  .exact⟨bq h cF,by simp[Value.cells,Value.oneCell']⟩
 |bool b=>have l:=h;rw[rep] at l;subst l;exact⟨bq h cF,by simp[Value.cells,Value.oneCell']⟩
 |int k n=>have l:=h;rw[rep] at l;subst l;exact⟨bq h cF,by simp[Value.cells,Value.oneCell']⟩
 |str s=>have l:=h;rw[rep] at l;subst l;exact⟨bq h cF,by simp[Value.cells,Value.oneCell']⟩
def xz {q b:Nat} {xs:List (List AV)} {l:Nat} (h:iI μ q b xs l) {i:Nat} {x:List AV} (w:xs[i]? =some x):
  ∃z:List Value,gV μ x z/\z.length=q/\∀j u,z[j]? =some u->μ b (l+(i *q)+j)=some u:=by
 induction xs generalizing l i with
 |nil=>simp at w
 |cons y xs L=>rw[iI] at h;obtain⟨⟨z,D,F,G,H⟩,I⟩:=h;cases i with
  |zero=>simp at w;subst w;exact⟨z,⟨D,F⟩,G,by simpa using H⟩
  |succ i=>simp at w;obtain⟨B,N,O,P⟩:=L I w;refine⟨B,N,O,λj u K=> ?_⟩;have:=P j u K;rwa[show l+q+i *q+j=l+(i+1) *q+j from by rw[hU];omega] at this
def IA {q b:Nat} {xs:List (List AV)} {l:Nat} (h:iI μ q b xs l) (n:Nat) (w:n<=xs.length):iI μ q b (xs.drop n) (l+n *q):=by induction n generalizing xs l with
 |zero=>simpa using h
 |succ n z=>cases xs with
  |nil=>simp at w
  |cons x xs=>rw[iI] at h;have:=z h.2 (by simpa using w);rw[List.drop_succ_cons];rwa[show l+(n+1) *q=l+q+n *q from by rw[hU];omega]
def IB {q b:Nat} {xs:List (List AV)} {l:Nat} (h:iI μ q b xs l) (n:Nat):iI μ q b (xs.take n) l:=by induction n generalizing xs l with
 |zero=>simp[iI]
 |succ n w=>cases xs with
  |nil=>simp[iI]
  |cons x xs=>rw[List.take_succ_cons];rw[iI] at h⊢;exact⟨h.1,w h.2⟩
end
def dO:Value->Value
 | .tuple l=>l.getD 0 undef
 |v=>v
def UQ (μ:Mu) (l:Nat->Value):l8->Value->Prop
 | .v a,u=>rep μ a u
 | .p id,u=>∃b,l id= .pointer (some ⟨b,0,none⟩)/\u= .pointer (some ⟨b,0,none⟩)
 | .r id,u=>u=dO (l id)
def gW (μ:Mu) (l:Nat->Value):List l8->List Value->Prop
 |[],q=>q=[]
 |c::z,q=>∃u w,q=u::w/\UQ μ l c u/\gW μ l z w
def SL (g:Nat) (l:List Value):Value:=
 bif Nat.blt g 1000000 then .func (.func g) #[] l.toArray
 else bif Nat.blt g 2000000 then .func (.func (g-1000000)) l.toArray #[]
 else match l with
  |[.pointer (some a)]=> .func (.yield a.block) #[] #[]
  |_=> .func (.func 0) #[] #[]
def sK:Ak->Value->Value->Prop
 | .full,v,u=>∃A n c,v= .slice A n c/\u= .slice A n n
 | .nr i,v,u=>∃(m:Value) (l:List Value),v= .tuple (m::l).toArray/\(∃A n c,m= .slice A n c)/\∀x,l[i]? =some x->x=undef\/x=u
def eV (μ:Mu) (l:Nat->Value):SV->Value->Prop
 | .undef,u=>u=undef
 | .any,_=>True
 | .pv v,u=>rep μ v u
 | .ptr id w,u=>∃b,l id= .pointer (some ⟨b,0,none⟩)/\u= .pointer (some ⟨b,w,none⟩)
 | .row id,u=>u=dO (l id)
 | .rp id H i w,u=>∃g n c,dO (l id)= .slice (some ⟨g,0,none⟩) n c/\u= .pointer (some ⟨g,i *H+w,none⟩)
 | .sub id H D F,u=>∃A n c G c',l id= .slice A n c/\D<=F/\F<=n/\F-D<=c'/\u= .slice G (F-D) c'/\(D=0->G=A/\c'=c)/\(D<F->∃g,A=some ⟨g,0,none⟩/\G=some ⟨g,D *H,none⟩)
 | .cp I,u=>∃b w B,u= .pointer (some ⟨b,w,none⟩)/\gV μ I B/\∀j v,B[j]? =some v->μ b (w+j)=some v
 | .cl f z,u=>∃B:List Value,u=SL f B/\gW μ l z B
 | .two s b,u=>∃x,u= .tuple #[x, .bool b]/\eV μ l s x
 | .ag z,u=>∃B:List Value,u= .agg B.toArray/\gW μ l z B/\∀x∈B,x.oneCell'=true
 | .aq id q,u=>sK q (l id) u
def fK (μ:Mu) (l:Nat->Value):List SV->List Value->Prop
 |[],q=>q=[]
 |x::xs,q=>∃u w,q=u::w/\eV μ l x u/\fK μ l xs w
def bS (μ:Mu) (w:Nat):List (List AV)->List Value->Prop
 |[],q=>q=[]
 |x::xs,q=>∃l ws,q=l++ws/\gV μ x l/\l.length=w/\bS μ w xs ws
def aP:Value->Option Nat
 | .pointer (some a)=>some a.block
 | .slice (some a) _ _=>some a.block
 | .map (some b)=>some b
 |_=>none
def gE (v:Value) (b:Nat):Prop:=aP v=some b\/∃l:List Value,v= .tuple l.toArray/\∃u∈l,aP u=some b
structure Qp where
 p:Prop
 lp:List AV->Mu->World->List Value->Prop:=λ_ _ _ _=>False
 mono:∀{xs:List AV} {μ μ':Mu} {w:World} {us:List Value},μ.le μ'->lp xs μ w us->lp xs μ' w us:=by exact λ_ h=>h
 keep:∀{xs:List AV} {μ:Mu} {w w':World} {us:List Value},(∀b,(∃u∈us,aP u=some b)->w'.heap[b]? =w.heap[b]?)->lp xs μ w us->lp xs μ w' us:=by exact λ_ h=>h.elim
instance:CoeSort Qp Prop:=⟨Qp.p⟩
instance:Coe Prop Qp:=⟨λp=>{ p:=p,mono:=λ_ h=>h,keep:=λ_ h=>h.elim }⟩
structure nV where
 f:Nat->Option Value
 q:Qp
instance:CoeFun nV (λ_=>Nat->Option Value):=⟨nV.f⟩
def DJ (L:nV) (b:Nat):Prop:=∃id v,L id=some v/\gE v b
def zq (l:Nat) (L:nV) (id b:Nat):Prop:=l<=b\/∃v,L id=some v/\gE v b
def Me (l:Array MapEntry) (q:Nat):Prop:=(∀x∈l.toList,x.born<q)/\(l.toList.map (·.born)).Nodup
def jC (H:Nat) (L:nV) (μ:Mu) (z:Nat->Value) (w:World) (id:Nat):Ob->Prop
 | .box t cells=>∃(b:Nat) (F:List Value),z id= .pointer (some ⟨b,0,none⟩)/\zq H L id b/\w.heap[b]? =some (.cells F.toArray t (0,0))/\(∀j,μ b j=none)/\fK μ z cells F/\∀u∈F,u.oneCell'=true
 | .row e G xs=>∃F:List Value,w.ownsRow 0 e G (z id) xs.length F/\bS μ G xs F/\∀g,gE (z id) g->zq H L id g/\∀j,μ g j=none
 | .mp k e N P=>∃(b:Nat) (l:Array MapEntry) (B:Nat),z id= .map (some b)/\zq H L id b/\w.heap[b]? =some (.map l B)/\(∀j,μ b j=none)/\bl μ N (l.toList.map (·.key))/\bl μ P (l.toList.map (·.val))/\Me l B
 | .mr k e G N F=>∃(b:Nat) (l:Array MapEntry) (B:Nat) (D:List Value),z id= .tuple (.map (some b)::D).toArray/\H<=b/\w.heap[b]? =some (.map l B)/\(∀j,μ b j=none)/\
   bl μ N (l.toList.map (·.key))/\D.length=F.length/\l.size=F.length/\
   (∀(i:Nat) xs,F[i]? =some (some xs)->∃(u:Value) (cells:List Value),D[i]? =some u/\(l.toList.map (·.val))[i]? =some u/\w.ownsRow 0 e G u xs.length cells/\bS μ G xs cells/\∀g,aP u=some g->H<=g/\∀j,μ g j=none)/\
   (∀i:Nat,F[i]? =some none->D[i]? =some undef)/\
   (∀(i j:Nat) (u v:Value),D[i]? =some u->D[j]? =some v->i≠j->∀g,aP u=some g->aP v≠some g)
 | .rn e G k O I xs K=>∃(m:Value) (D F:List Value),z id= .tuple (m::D).toArray/\(∀q,aP m=some q->zq H L id q/\∀j,μ q j=none)/\w.ownsRow 0 e G m xs.length F/\bS μ G xs F/\(k<G/\∀c∈xs,c[k]? =some AV.hole)/\
   D.length=K.length/\xs.length=K.length/\
   (∀(i:Nat) zs,K[i]? =some (some zs)->∃(u:Value) (cells:List Value),D[i]? =some u/\F[i *G+k]? =some u/\w.ownsRow 0 O I u zs.length cells/\bS μ I zs cells/\∀g,aP u=some g->zq H L id g/\∀j,μ g j=none)/\
   (∀i:Nat,K[i]? =some none->D[i]? =some undef)/\
   (∀u∈D,∀g,aP u=some g->aP m≠some g)/\
   (∀(i j:Nat) (u v:Value),D[i]? =some u->D[j]? =some v->i≠j->∀g,aP u=some g->aP v≠some g)
 | .it s pos=>∃b,z id= .pointer (some ⟨b,0,none⟩)/\zq H L id b/\w.heap[b]? =some (.stringIter ⟨s.toArray⟩ pos)/\∀j,μ b j=none
 | .lp xs=>∃D:List Value,z id= .tuple D.toArray/\(∀g,gE (z id) g->zq H L id g/\g<w.heap.size/\∀j,μ g j=none)/\L.q.lp xs μ w D
def Mu.ext (n:Nat) (μ l:Mu):Prop:=μ.le l/\∀b j v,l b j=some v->μ b j=some v\/n<=b
structure Rel (N:Nat) (w0:World) (μ0:Mu) (L:nV) (μ:Mu) (loc:Nat->Value) (st:St) (a:Act) (w:World):Prop where
 small:N<=10000
 names:∀id,id<10000->L id=none
 fix:∀id v,L id=some v->id<20000->loc id=v
 size:a.tmps.size=N
 defers:a.defers=[]
 env:∀i sv,st.env i=some sv->∃v,a.tmps[i]? =some v/\eV μ loc sv v
 qk:∀b j v,μ b j=some v->y5 w b j=some v
 base:μ0.ext w0.heap.size μ
 obs:∀id o,st.ob id=some o->jC w0.heap.size L μ loc w id o
 apart:∀i j oi oj,st.ob i=some oi->st.ob j=some oj->i≠j->∀g,gE (loc i) g->¬gE (loc j) g
 keep:∀b,b<w0.heap.size->¬DJ L b->w.heap[b]? =w0.heap[b]?
 os:w.os=w0.os
 tape:w.tape=w0.tape
 output:w.output=w0.output
 grown:w0.heap.size<=w.heap.size
 drawn:L.q->w0.drawn<=w.drawn
