/- THE ABSTRACT MACHINE. -/
import Derived.Test.YtbnlhmaaccgbjaaGreatDoorAmDefs
set_option linter.all false
namespace Go.AM
abbrev Mu:=Nat->Nat->Option Value
def wg (l q:List Value):Value:= .tuple #[.tuple l.toArray, .tuple q.toArray]
def H7 (w:World) (b j:Nat):Option Value:=
 match w.heap[b]? with
 |some (.cells c _ _)=>(c[j]?).bind λv=>if v.oneCell'=true then some v else none
 |some (.map l _)=>if j=0 then some (wg (l.toList.map (·.key)) (l.toList.map (·.val))) else none
 |_=>none
def yI {w:World} {b j:Nat} {v:Value} (h:H7 w b j=some v) (l:v.oneCell'=true):w.cell? ⟨b,j,none⟩=some v:=by
 unfold H7 at h;unfold World.cell?;split at h
 .rename_i c t q z;simp only[z];obtain⟨u,B,h⟩:=dm.1 h;split at h
  .injection h with h;subst h;simpa using B
  .cases h
 .split at h
  .injection h with h;subst h;simp[wg,Value.oneCell'] at l
  .cases h
 .cases h
def xw {w:World} {b j:Nat} {v:Value} (h:w.cell? ⟨b,j,none⟩=some v) (z:v.oneCell'=true):H7 w b j=some v:=by
 unfold World.cell? at h;unfold H7;split at h
 .rename_i c t q B;simp only[B];have l:c[j]? =some v:=by simpa using h
  simp[l,z]
 .cases h
def see_map {w:World} {b:Nat} {B z:List Value} (h:H7 w b 0=some (wg B z)):∃dM l,w.heap[b]? =some (.map dM l)/\B=dM.toList.map (·.key)/\z=dM.toList.map (·.val):=by
 unfold H7 at h;split at h
 .obtain⟨u,H,h⟩:=dm.1 h;split at h
  .rename_i q;injection h with h;subst h;simp[wg,Value.oneCell'] at q
  .cases h
 .rename_i F l G;simp only[fW,aW,wg,Value.tuple.injEq] at h;have q:=aP Array.toList h;simp only[cS,Value.tuple.injEq,eH] at q;have e1:=aP Array.toList q.1;have D:=aP Array.toList q.2;exact⟨F,l,G,by simpa using e1.symm,by simpa using D.symm⟩
 .cases h
def Lp {w:World} {b:Nat} {dM:Array MapEntry} {l:Nat} (h:w.heap[b]? =some (.map dM l)):H7 w b 0=some (wg (dM.toList.map (·.key)) (dM.toList.map (·.val))):=by unfold H7;rw[h];simp
def sF {w:World} {b j:Nat} {v:Value} (h:H7 w b j=some v):b<w.heap.size:=by
 unfold H7 at h;split at h
 .rename_i c t q l;exact(gx.1 l).1
 .rename_i B z l;exact(gx.1 l).1
 .cases h
theorem jx {w l:World} {b:Nat} (h:l.heap[b]? =w.heap[b]?) (j:Nat):H7 l b j=H7 w b j:=by unfold H7;rw[h]
mutual
def rep (μ:Mu):AV->Value->Prop
 | .bool b,v=>v= .bool b
 | .int k n,v=>v= .int k n
 | .str s,v=>v= .string ⟨s.toArray⟩
 | .dD sz xs,v=>∃A c,v= .slice A xs.length c/\xs.length<=c/\c<=maxLen/\(xs.length=0\/∃b off,A=some ⟨b,off,none⟩/\lE μ sz b xs off)
 | .agg cs,v=>∃vs:List Value,v= .agg vs.toArray/\cM μ cs vs/\∀u∈vs,u.oneCell'=true
 | .fn f caps,v=>∃vs:List Value,v= .func (.func f) #[] vs.toArray/\cM μ caps vs
 | .iQ cs,v=>∃vs:List Value,v= .tuple vs.toArray/\cM μ cs vs
 | .ref cs,v=>∃(b off:Nat) (vs:List Value),v= .pointer (some ⟨b,off,none⟩)/\cM μ cs vs/\(∀u∈vs,u.oneCell'=true)/\∀j u,vs[j]? =some u->μ b (off+j)=some u
 | .self _,_=>False
 | .rD,v=>v= .pointer none
 | .tR,v=>v= .slice none 0 0
 | .hole,v=>v.oneCell'=true/\v.cells= #[v]
 | .mp ks es,v=>(v= .map none/\ks=[]/\es=[])\/∃(b:Nat) (kv ev:List Value),v= .map (some b)/\cM μ ks kv/\cM μ es ev/\μ b 0=some (wg kv ev)
def cM (μ:Mu):List AV->List Value->Prop
 |[],vs=>vs=[]
 |x::xs,vs=>∃u us,vs=u::us/\rep μ x u/\cM μ xs us
def lE (μ:Mu) (sz b:Nat):List (List AV)->Nat->Prop
 |[],_=>True
 |x::xs,off=>(∃vs:List Value,cM μ x vs/\(∀u∈vs,u.oneCell'=true)/\vs.length=sz/\∀j u,vs[j]? =some u->μ b (off+j)=some u)/\lE μ sz b xs (off+sz)
end
def lR (μ:Mu) (q:List AV) (l:List Value):Prop:=cM μ q l/\∀u∈l,u.oneCell'=true
def Mu.le (μ l:Mu):Prop:=∀b j v,μ b j=some v->l b j=some v
theorem Mu.le.refl (μ:Mu):μ.le μ:=λ_ _ _ h=>h
theorem Mu.le.trans {a b c:Mu} (h:a.le b) (k:b.le c):a.le c:=λx y v l=>k _ _ _ (h _ _ _ l)
mutual
theorem yE {μ μ':Mu} (h:μ.le μ'):∀(x:AV) (v:Value),rep μ x v->rep μ' x v
 | .bool b,v=>λhv=>by simpa[rep] using hv
 | .int k n,v=>λhv=>by simpa[rep] using hv
 | .str s,v=>λhv=>by simpa[rep] using hv
 | .dD sz xs,v=>λhv=>by rw[rep] at hv⊢;obtain⟨A,c,e,h1,h2,h3⟩:=hv;exact⟨A,c,e,h1,h2,h3.imp id λ⟨b,off,ea,hr⟩=>⟨b,off,ea,HY h sz b xs off hr⟩⟩
 | .agg cs,v=>λhv=>by rw[rep] at hv⊢;obtain⟨vs,e,h1,h2⟩:=hv;exact⟨vs,e,gj h cs vs h1,h2⟩
 | .fn f caps,v=>λhv=>by rw[rep] at hv⊢;obtain⟨vs,e,h1⟩:=hv;exact⟨vs,e,gj h caps vs h1⟩
 | .iQ cs,v=>λhv=>by rw[rep] at hv⊢;obtain⟨vs,e,h1⟩:=hv;exact⟨vs,e,gj h cs vs h1⟩
 | .ref cs,v=>λhv=>by rw[rep] at hv⊢;obtain⟨b,off,vs,e,h1,h2,h3⟩:=hv;exact⟨b,off,vs,e,gj h cs vs h1,h2,λj u hu=>h _ _ _ (h3 j u hu)⟩
 | .self n,v=>λhv=>by rw[rep] at hv;exact hv.elim
 | .rD,v=>λhv=>by simpa[rep] using hv
 | .tR,v=>λhv=>by simpa[rep] using hv
 | .hole,v=>λhv=>by simpa[rep] using hv
 | .mp ks es,v=>λhv=>by
  rw[rep] at hv⊢;rcases hv with hv|⟨b,kv,ev,e,h1,h2,h3⟩
  .exact .inl hv
  .exact .inr ⟨b,kv,ev,e,gj h ks kv h1,gj h es ev h2,h _ _ _ h3⟩
theorem gj {μ μ':Mu} (h:μ.le μ'):∀(xs:List AV) (vs:List Value),cM μ xs vs->cM μ' xs vs
 |[],vs=>λhv=>by simpa[cM] using hv
 |x::xs,vs=>λhv=>by rw[cM] at hv⊢;obtain⟨u,us,e,h1,h2⟩:=hv;exact⟨u,us,e,yE h x u h1,gj h xs us h2⟩
theorem HY {μ μ':Mu} (h:μ.le μ') (sz b:Nat):∀(xs:List (List AV)) (off:Nat),lE μ sz b xs off->lE μ' sz b xs off
 |[],off=>λ_=>by simp[lE]
 |x::xs,off=>λhv=>by rw[lE] at hv⊢;obtain⟨⟨vs,h1,h2,h3,h4⟩,h5⟩:=hv;exact⟨⟨vs,gj h x vs h1,h2,h3,λj u hu=>h _ _ _ (h4 j u hu)⟩,HY h sz b xs _ h5⟩
end
def lR.mono {μ l:Mu} (h:μ.le l) {q:List AV} {w:List Value} (k:lR μ q w):lR l q w:=⟨gj h _ _ k.1,k.2⟩
section
variable {μ:Mu}
theorem dA:cM μ [] []:=by simp[cM]
theorem cE {x:AV} {xs:List AV} {v:Value} {l:List Value} (h:rep μ x v) (k:cM μ xs l):cM μ (x::xs) (v::l):=by rw[cM];exact⟨v,l,rfl,h,k⟩
theorem tB {xs:List AV} {l:List Value} (h:cM μ xs l):l.length=xs.length:=by induction xs generalizing l with
 |nil=>rw[cM] at h;subst h;rfl
 |cons x xs w=>rw[cM] at h;obtain⟨u,z,rfl,_,q⟩:=h;simp[w q]
def s7 {xs:List AV} {q:List Value} (h:cM μ xs q) {i:Nat} {x:AV} (l:xs[i]? =some x):∃v,q[i]? =some v/\rep μ x v:=by induction xs generalizing q i with
 |nil=>simp at l
 |cons y xs F=>rw[cM] at h;obtain⟨u,G,rfl,w,z⟩:=h;cases i with
  |zero=>simp at l;subst l;exact⟨u,by simp,w⟩
  |succ i=>simp at l;obtain⟨v,D,B⟩:=F z l;exact⟨v,by simpa using D,B⟩
theorem ox {xs w:List AV} {l q:List Value} (h:cM μ xs l) (k:cM μ w q):cM μ (xs++w) (l++q):=by induction xs generalizing l with
 |nil=>rw[cM] at h;subst h;simpa using k
 |cons x xs D=>rw[cM] at h;obtain⟨u,F,rfl,z,B⟩:=h;exact cE z (D B)
def TD {xs:List AV} {l:List Value} (h:cM μ xs l) (n:Nat):cM μ (xs.drop n) (l.drop n):=by induction n generalizing xs l with
 |zero=>simpa using h
 |succ n w=>cases xs with
  |nil=>rw[cM] at h;subst h;simp[cM]
  |cons x xs=>rw[cM] at h;obtain⟨u,z,rfl,_,q⟩:=h;simpa using w q
def TF {xs:List AV} {l:List Value} (h:cM μ xs l) (n:Nat):cM μ (xs.take n) (l.take n):=by induction n generalizing xs l with
 |zero=>simp[cM]
 |succ n z=>cases xs with
  |nil=>rw[cM] at h;subst h;simp[cM]
  |cons x xs=>rw[cM] at h;obtain⟨u,B,rfl,q,w⟩:=h;simpa using cE q (z w)
theorem lR.drop {l:List AV} {q:List Value} (h:lR μ l q) (n:Nat):lR μ (l.drop n) (q.drop n):=
 ⟨TD h.1 n,λu w=>h.2 u (ji w)⟩
theorem lR.take {l:List AV} {q:List Value} (h:lR μ l q) (n:Nat):lR μ (l.take n) (q.take n):=
 ⟨TF h.1 n,λu w=>h.2 u (vG w)⟩
def lR.append {l q:List AV} {z w:List Value} (h:lR μ l z) (k:lR μ q w):lR μ (l++q) (z++w):=
 ⟨ox h.1 k.1,λu B=>(bu.1 B).elim (h.2 u) (k.2 u)⟩
def lR.length {l:List AV} {q:List Value} (h:lR μ l q):q.length=l.length:=tB h.1
def NI {x:AV} {v:Value} (h:rep μ x v) (F:∀q,x≠ .iQ q):lR μ x.cells v.cells.toList:=by cases x with
 |agg z=>rw[rep] at h;obtain⟨q,rfl,B,D⟩:=h;exact⟨by simpa[AV.cells,Value.cells] using B,by simpa[Value.cells] using D⟩
 |iQ q=>exact absurd rfl (F q)
 |dD N xs=>have l:=h;rw[rep] at l;obtain⟨A,c,rfl,_⟩:=l;exact⟨cE h dA,by simp[Value.cells,Value.oneCell']⟩
 |fn f w=>have l:=h;rw[rep] at l;obtain⟨q,rfl,_⟩:=l;exact⟨cE h dA,by simp[Value.cells,Value.oneCell']⟩
 |ref z=>have l:=h;rw[rep] at l;obtain⟨b,G,q,rfl,_⟩:=l;exact⟨cE h dA,by simp[Value.cells,Value.oneCell']⟩
 |self n=>rw[rep] at h;exact h.elim
 |rD=>have l:=h;rw[rep] at l;subst l;exact⟨cE h dA,by simp[Value.cells,Value.oneCell']⟩
 |tR=>have l:=h;rw[rep] at l;subst l;exact⟨cE h dA,by simp[Value.cells,Value.oneCell']⟩
 |hole=>have l:=h;rw[rep] at l;rw[l.2];exact⟨cE h dA,by simp[l.1]⟩
 |mp K H=>
  have l:=h;rw[rep] at l;rcases l with⟨rfl,_⟩|⟨b,L,I,rfl,_⟩
  .exact⟨cE h dA,by simp[Value.cells,Value.oneCell']⟩
  .exact⟨cE h dA,by simp[Value.cells,Value.oneCell']⟩
 |bool b=>have l:=h;rw[rep] at l;subst l;exact⟨cE h dA,by simp[Value.cells,Value.oneCell']⟩
 |int k n=>have l:=h;rw[rep] at l;subst l;exact⟨cE h dA,by simp[Value.cells,Value.oneCell']⟩
 |str s=>have l:=h;rw[rep] at l;subst l;exact⟨cE h dA,by simp[Value.cells,Value.oneCell']⟩
def Wr {q b:Nat} {xs:List (List AV)} {l:Nat} (h:lE μ q b xs l) {i:Nat} {x:List AV} (w:xs[i]? =some x):
  ∃z:List Value,lR μ x z/\z.length=q/\∀j u,z[j]? =some u->μ b (l+(i *q)+j)=some u:=by
 induction xs generalizing l i with
 |nil=>simp at w
 |cons y xs L=>rw[lE] at h;obtain⟨⟨z,D,F,G,H⟩,I⟩:=h;cases i with
  |zero=>simp at w;subst w;exact⟨z,⟨D,F⟩,G,by simpa using H⟩
  |succ i=>simp at w;obtain⟨B,N,O,P⟩:=L I w;refine⟨B,N,O,λj u K=> ?_⟩;have:=P j u K;rwa[show l+q+i *q+j=l+(i+1) *q+j from by rw[jA];omega] at this
def TG {q b:Nat} {xs:List (List AV)} {l:Nat} (h:lE μ q b xs l) (n:Nat) (w:n<=xs.length):lE μ q b (xs.drop n) (l+n *q):=by induction n generalizing xs l with
 |zero=>simpa using h
 |succ n z=>cases xs with
  |nil=>simp at w
  |cons x xs=>rw[lE] at h;have:=z h.2 (by simpa using w);rw[G6];rwa[show l+(n+1) *q=l+q+n *q from by rw[jA];omega]
def TJ {q b:Nat} {xs:List (List AV)} {l:Nat} (h:lE μ q b xs l) (n:Nat):lE μ q b (xs.take n) l:=by induction n generalizing xs l with
 |zero=>simp[lE]
 |succ n w=>cases xs with
  |nil=>simp[lE]
  |cons x xs=>rw[G7];rw[lE] at h⊢;exact⟨h.1,w h.2⟩
end
def fS:Value->Value
 | .tuple l=>l.getD 0 undef
 |v=>v
def PN (μ:Mu) (l:Nat->Value):oE->Value->Prop
 | .v a,u=>rep μ a u
 | .p id,u=>∃b,l id= .pointer (some ⟨b,0,none⟩)/\u= .pointer (some ⟨b,0,none⟩)
 | .r id,u=>u=fS (l id)
def kT (μ:Mu) (l:Nat->Value):List oE->List Value->Prop
 |[],q=>q=[]
 |c::z,q=>∃u w,q=u::w/\PN μ l c u/\kT μ l z w
def clV (g:Nat) (l:List Value):Value:=
 bif Nat.blt g 1000000 then .func (.func g) #[] l.toArray
 else bif Nat.blt g 2000000 then .func (.func (g-1000000)) l.toArray #[]
 else match l with
  |[.pointer (some a)]=> .func (.yield a.block) #[] #[]
  |_=> .func (.func 0) #[] #[]
def yD:Ak->Value->Value->Prop
 | .bs n,v,u=>∃b,v= .pointer (some ⟨b,0,none⟩)/\u= .slice (some ⟨b,0,none⟩) n n
 | .full,v,u=>∃A n c,v= .slice A n c/\u= .slice A n n
 | .nr i,v,u=>∃(m:Value) (l:List Value),v= .tuple (m::l).toArray/\(∃A n c,m= .slice A n c)/\∀x,l[i]? =some x->x=undef\/x=u
def fU (μ:Mu) (l:Nat->Value):SV->Value->Prop
 | .undef,u=>u=undef
 | .any,_=>True
 | .pv v,u=>rep μ v u
 | .ptr id w,u=>∃b,l id= .pointer (some ⟨b,0,none⟩)/\u= .pointer (some ⟨b,w,none⟩)
 | .row id,u=>u=fS (l id)
 | .rp id H i w,u=>∃g n c,fS (l id)= .slice (some ⟨g,0,none⟩) n c/\u= .pointer (some ⟨g,i *H+w,none⟩)
 | .sub id H D F,u=>∃A n c G c',l id= .slice A n c/\D<=F/\F<=n/\F-D<=c'/\u= .slice G (F-D) c'/\(D=0->G=A/\c'=c)/\(D<F->∃g,A=some ⟨g,0,none⟩/\G=some ⟨g,D *H,none⟩)
 | .cp I,u=>∃b w B,u= .pointer (some ⟨b,w,none⟩)/\lR μ I B/\∀j v,B[j]? =some v->μ b (w+j)=some v
 | .cl f z,u=>∃B:List Value,u=clV f B/\kT μ l z B
 | .two s t,u=>∃x y,u= .tuple #[x,y]/\fU μ l s x/\fU μ l t y
 | .ag z,u=>∃B:List Value,u= .agg B.toArray/\kT μ l z B/\∀x∈B,x.oneCell'=true
 | .aq id q,u=>yD q (l id) u
def ig (μ:Mu) (l:Nat->Value):List SV->List Value->Prop
 |[],q=>q=[]
 |x::xs,q=>∃u w,q=u::w/\fU μ l x u/\ig μ l xs w
def cT (μ:Mu) (w:Nat):List (List AV)->List Value->Prop
 |[],q=>q=[]
 |x::xs,q=>∃l ws,q=l++ws/\lR μ x l/\l.length=w/\cT μ w xs ws
def bH:Value->Option Nat
 | .pointer (some a)=>some a.block
 | .slice (some a) _ _=>some a.block
 | .map (some b)=>some b
 |_=>none
def lI (v:Value) (b:Nat):Prop:=bH v=some b\/∃l:List Value,v= .tuple l.toArray/\∃u∈l,bH u=some b
structure Qp where
 p:Prop
 lp:List AV->Mu->World->List Value->Prop:=λ_ _ _ _=>False
 mono:∀{xs:List AV} {μ μ':Mu} {w:World} {us:List Value},μ.le μ'->lp xs μ w us->lp xs μ' w us:=by exact λ_ h=>h
 keep:∀{xs:List AV} {μ:Mu} {w w':World} {us:List Value},(∀b,(∃u∈us,bH u=some b)->w'.heap[b]? =w.heap[b]?)->lp xs μ w us->lp xs μ w' us:=by exact λ_ h=>h.elim
instance:CoeSort Qp Prop:=⟨Qp.p⟩
instance:Coe Prop Qp:=⟨λp=>{ p:=p,mono:=λ_ h=>h,keep:=λ_ h=>h.elim }⟩
structure sQ where
 f:Nat->Option Value
 q:Qp
instance:CoeFun sQ (λ_=>Nat->Option Value):=⟨sQ.f⟩
def Nj (L:sQ) (b:Nat):Prop:=∃id v,L id=some v/\lI v b
def Vi (L:sQ) (b:Nat):Prop:=∃id v,9000<=id/\id<10000/\L id=some v/\lI v b
def Gz (l:Nat) (L:sQ) (id b:Nat):Prop:=l<=b\/Vi L b\/∃v,L id=some v/\lI v b
def aay (dM:Array MapEntry) (l:Nat):Prop:=(∀x∈dM.toList,x.born<l)/\(dM.toList.map (·.born)).Nodup
def nv (G:Nat) (L:sQ) (μ:Mu) (l:Nat->Value) (w:World) (id:Nat):Ob->Prop
 | .box t cells=>∃(b:Nat) (D:List Value),l id= .pointer (some ⟨b,0,none⟩)/\Gz G L id b/\w.heap[b]? =some (.cells D.toArray t (0,0))/\(∀j,μ b j=none)/\ig μ l cells D/\∀u∈D,u.oneCell'=true
 | .row e F xs=>∃D:List Value,w.ownsRow 0 e F (l id) xs.length D/\cT μ F xs D/\∀g,lI (l id) g->Gz G L id g/\∀j,μ g j=none
 | .mp k e K O=>∃(b:Nat) (dM:Array MapEntry) (z:Nat),l id= .map (some b)/\Gz G L id b/\w.heap[b]? =some (.map dM z)/\(∀j,μ b j=none)/\cM μ K (dM.toList.map (·.key))/\cM μ O (dM.toList.map (·.val))/\aay dM z
 | .mr k e F K D=>∃(b:Nat) (dM:Array MapEntry) (z:Nat) (B:List Value),l id= .tuple (.map (some b)::B).toArray/\G<=b/\w.heap[b]? =some (.map dM z)/\(∀j,μ b j=none)/\
   cM μ K (dM.toList.map (·.key))/\B.length=D.length/\dM.size=D.length/\
   (∀(i:Nat) xs,D[i]? =some (some xs)->∃(u:Value) (cells:List Value),B[i]? =some u/\(dM.toList.map (·.val))[i]? =some u/\w.ownsRow 0 e F u xs.length cells/\cT μ F xs cells/\∀g,bH u=some g->(G<=g\/Vi L g)/\∀j,μ g j=none)/\
   (∀i:Nat,D[i]? =some none->B[i]? =some undef)/\
   (∀(i j:Nat) (u v:Value),B[i]? =some u->B[j]? =some v->i≠j->∀g,bH u=some g->bH v≠some g)
 | .rn e F k N H xs I=>∃(m:Value) (B D:List Value),l id= .tuple (m::B).toArray/\(∀q,bH m=some q->Gz G L id q/\∀j,μ q j=none)/\w.ownsRow 0 e F m xs.length D/\cT μ F xs D/\(k<F/\∀c∈xs,c[k]? =some AV.hole)/\
   B.length=I.length/\xs.length=I.length/\
   (∀(i:Nat) zs,I[i]? =some (some zs)->∃(u:Value) (cells:List Value),B[i]? =some u/\D[i *F+k]? =some u/\w.ownsRow 0 N H u zs.length cells/\cT μ H zs cells/\∀g,bH u=some g->Gz G L id g/\∀j,μ g j=none)/\
   (∀i:Nat,I[i]? =some none->B[i]? =some undef)/\
   (∀u∈B,∀g,bH u=some g->bH m≠some g)/\
   (∀(i j:Nat) (u v:Value),B[i]? =some u->B[j]? =some v->i≠j->∀g,bH u=some g->bH v≠some g)
 | .it s pos=>∃b,l id= .pointer (some ⟨b,0,none⟩)/\Gz G L id b/\w.heap[b]? =some (.stringIter ⟨s.toArray⟩ pos)/\∀j,μ b j=none
 | .lp xs=>∃B:List Value,l id= .tuple B.toArray/\(∀g,lI (l id) g->Gz G L id g/\g<w.heap.size/\∀j,μ g j=none)/\L.q.lp xs μ w B
def Mu.ext (n:Nat) (μ l:Mu):Prop:=μ.le l/\∀b j v,l b j=some v->μ b j=some v\/n<=b
def Mu.extL (n:Nat) (L:sQ) (μ l:Mu):Prop:=μ.le l/\∀b j v,l b j=some v->μ b j=some v\/n<=b\/Vi L b
def Mu.ext.toL {n:Nat} {L:sQ} {μ l:Mu} (h:μ.ext n l):μ.extL n L l:=⟨h.1,λb j v q=>(h.2 b j v q).imp (λh=>h) .inl⟩
structure Rel (N:Nat) (w0:World) (μ0:Mu) (L:sQ) (μ:Mu) (loc:Nat->Value) (st:St) (a:Act) (w:World):Prop where
 small:N<=10000
 names:∀id,id<9000->L id=none
 fix:∀id v,L id=some v->10000<=id->id<20000->loc id=v
 size:a.tmps.size=N
 defers:a.defers=[]
 env:∀i sv,st.env i=some sv->∃v,a.tmps[i]? =some v/\fU μ loc sv v
 xZ:∀b j v,μ b j=some v->H7 w b j=some v
 base:μ0.extL w0.heap.size L μ
 obs:∀id o,st.ob id=some o->nv w0.heap.size L μ loc w id o
 apart:∀i j oi oj,st.ob i=some oi->st.ob j=some oj->i≠j->∀g,lI (loc i) g->¬lI (loc j) g
 keep:∀b,b<w0.heap.size->¬Nj L b->w.heap[b]? =w0.heap[b]?
 os:w.os=w0.os
 tape:w.tape=w0.tape
 output:w.output=w0.output
 grown:w0.heap.size<=w.heap.size
 drawn:L.q->w0.drawn<=w.drawn
def Rel.BI {N:Nat} {B:World} {D:Mu} {L:sQ} {μ:Mu} {z:Nat->Value} {H:St} {a:Act} {w:World} (F:Rel N B D L μ z H a w) {id b:Nat} (l:id<10000) (h:Gz B.heap.size L id b):B.heap.size<=b\/Vi L b:=by
 rcases h with h|h|⟨v,q,h⟩
 .exact .inl h
 .exact .inr h
 .by_cases G:id<9000
  .rw[F.names id G] at q;cases q
  .exact .inr ⟨id,v,by omega,l,q,h⟩
def Vi.cL {L:sQ} {b:Nat} (h:Vi L b):Nj L b:=by obtain⟨id,v,_,_,h⟩:=h;exact⟨id,v,h⟩
