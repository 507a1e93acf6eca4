/- THE ABSTRACT MACHINE. -/
import Derived.Test.YthppjmoncapdfaaGreatDoorAmDefs
set_option linter.all false
namespace Go.AM
abbrev Mu:=Nat->Nat->Option Value
def u6 (l q:List Value):Value:= .tuple #[.tuple l.toArray, .tuple q.toArray]
def ED (w:World) (b j:Nat):Option Value:=
 match w.heap[b]? with
 |some (.cells c _ _)=>(c[j]?).bind λv=>if v.oneCell'=true then some v else none
 |some (.map l _)=>if j=0 then some (u6 (l.toList.map (·.key)) (l.toList.map (·.val))) else none
 |_=>none
def tq {w:World} {b j:Nat} {v:Value} (h:ED w b j=some v) (l:v.oneCell'=true):w.cell? ⟨b,j,none⟩=some v:=by
 unfold ED at h;unfold World.cell?;split at h
 .rename_i c t q z;simp only[z];obtain⟨u,B,h⟩:=dM.1 h;split at h
  .injection h with h;subst h;simpa using B
  .cases h
 .split at h
  .injection h with h;subst h;simp[u6,Value.oneCell'] at l
  .cases h
 .cases h
def tu {w:World} {b j:Nat} {v:Value} (h:w.cell? ⟨b,j,none⟩=some v) (z:v.oneCell'=true):ED w b j=some v:=by
 unfold World.cell? at h;unfold ED;split at h
 .rename_i c t q B;simp only[B];have l:c[j]? =some v:=by simpa using h
  simp[l,z]
 .cases h
def see_map {w:World} {b:Nat} {B z:List Value} (h:ED w b 0=some (u6 B z)):∃cN l,w.heap[b]? =some (.map cN l)/\B=cN.toList.map (·.key)/\z=cN.toList.map (·.val):=by
 unfold ED at h;split at h
 .obtain⟨u,H,h⟩:=dM.1 h;split at h
  .rename_i q;injection h with h;subst h;simp[u6,Value.oneCell'] at q
  .cases h
 .rename_i F l G;simp only[fS,aN,u6,Value.tuple.injEq] at h;have q:=aK Array.toList h;simp only[dN,Value.tuple.injEq,fG] at q;have e1:=aK Array.toList q.1;have D:=aK Array.toList q.2;exact⟨F,l,G,by simpa using e1.symm,by simpa using D.symm⟩
 .cases h
def JE {w:World} {b:Nat} {cN:Array MapEntry} {l:Nat} (h:w.heap[b]? =some (.map cN l)):ED w b 0=some (u6 (cN.toList.map (·.key)) (cN.toList.map (·.val))):=by unfold ED;rw[h];simp
def lQ {w:World} {b j:Nat} {v:Value} (h:ED w b j=some v):b<w.heap.size:=by
 unfold ED at h;split at h
 .rename_i c t q l;exact(eE.1 l).1
 .rename_i B z l;exact(eE.1 l).1
 .cases h
theorem fP {w l:World} {b:Nat} (h:l.heap[b]? =w.heap[b]?) (j:Nat):ED l b j=ED w b j:=by unfold ED;rw[h]
mutual
def rep (μ:Mu):AV->Value->Prop
 | .bool b,v=>v= .bool b
 | .int k n,v=>v= .int k n
 | .str s,v=>v= .string ⟨s.toArray⟩
 | .dK sz xs,v=>∃A c,v= .slice A xs.length c/\xs.length<=c/\c<=maxLen/\(xs.length=0\/∃b off,A=some ⟨b,off,none⟩/\kJ μ sz b xs off)
 | .agg cs,v=>∃vs:List Value,v= .agg vs.toArray/\cn μ cs vs/\∀u∈vs,u.oneCell'=true
 | .fn f caps,v=>∃vs:List Value,v= .func (.func f) #[] vs.toArray/\cn μ caps vs
 | .lR cs,v=>∃vs:List Value,v= .tuple vs.toArray/\cn μ cs vs
 | .ref cs,v=>∃(b off:Nat) (vs:List Value),v= .pointer (some ⟨b,off,none⟩)/\cn μ cs vs/\(∀u∈vs,u.oneCell'=true)/\∀j u,vs[j]? =some u->μ b (off+j)=some u
 | .self _,_=>False
 | .DQ,v=>v= .pointer none
 | .qm,v=>v= .slice none 0 0
 | .hole,v=>v.oneCell'=true/\v.cells= #[v]
 | .mp ks es,v=>(v= .map none/\ks=[]/\es=[])\/∃(b:Nat) (kv ev:List Value),v= .map (some b)/\cn μ ks kv/\cn μ es ev/\μ b 0=some (u6 kv ev)
def cn (μ:Mu):List AV->List Value->Prop
 |[],vs=>vs=[]
 |x::xs,vs=>∃u us,vs=u::us/\rep μ x u/\cn μ xs us
def kJ (μ:Mu) (sz b:Nat):List (List AV)->Nat->Prop
 |[],_=>True
 |x::xs,off=>(∃vs:List Value,cn μ x vs/\(∀u∈vs,u.oneCell'=true)/\vs.length=sz/\∀j u,vs[j]? =some u->μ b (off+j)=some u)/\kJ μ sz b xs (off+sz)
end
def j8 (μ:Mu) (q:List AV) (l:List Value):Prop:=cn μ q l/\∀u∈l,u.oneCell'=true
def Mu.le (μ l:Mu):Prop:=∀b j v,μ b j=some v->l b j=some v
theorem Mu.le.refl (μ:Mu):μ.le μ:=λ_ _ _ h=>h
theorem Mu.le.trans {a b c:Mu} (h:a.le b) (k:b.le c):a.le c:=λx y v l=>k _ _ _ (h _ _ _ l)
mutual
theorem vj {μ μ':Mu} (h:μ.le μ'):∀(x:AV) (v:Value),rep μ x v->rep μ' x v
 | .bool b,v=>λhv=>by simpa[rep] using hv
 | .int k n,v=>λhv=>by simpa[rep] using hv
 | .str s,v=>λhv=>by simpa[rep] using hv
 | .dK sz xs,v=>λhv=>by rw[rep] at hv⊢;obtain⟨A,c,e,h1,h2,h3⟩:=hv;exact⟨A,c,e,h1,h2,h3.imp id λ⟨b,off,ea,hr⟩=>⟨b,off,ea,Ge h sz b xs off hr⟩⟩
 | .agg cs,v=>λhv=>by rw[rep] at hv⊢;obtain⟨vs,e,h1,h2⟩:=hv;exact⟨vs,e,fE h cs vs h1,h2⟩
 | .fn f caps,v=>λhv=>by rw[rep] at hv⊢;obtain⟨vs,e,h1⟩:=hv;exact⟨vs,e,fE h caps vs h1⟩
 | .lR cs,v=>λhv=>by rw[rep] at hv⊢;obtain⟨vs,e,h1⟩:=hv;exact⟨vs,e,fE h cs vs h1⟩
 | .ref cs,v=>λhv=>by rw[rep] at hv⊢;obtain⟨b,off,vs,e,h1,h2,h3⟩:=hv;exact⟨b,off,vs,e,fE h cs vs h1,h2,λj u hu=>h _ _ _ (h3 j u hu)⟩
 | .self n,v=>λhv=>by rw[rep] at hv;exact hv.elim
 | .DQ,v=>λhv=>by simpa[rep] using hv
 | .qm,v=>λhv=>by simpa[rep] using hv
 | .hole,v=>λhv=>by simpa[rep] using hv
 | .mp ks es,v=>λhv=>by
  rw[rep] at hv⊢;rcases hv with hv|⟨b,kv,ev,e,h1,h2,h3⟩
  .exact .inl hv
  .exact .inr ⟨b,kv,ev,e,fE h ks kv h1,fE h es ev h2,h _ _ _ h3⟩
theorem fE {μ μ':Mu} (h:μ.le μ'):∀(xs:List AV) (vs:List Value),cn μ xs vs->cn μ' xs vs
 |[],vs=>λhv=>by simpa[cn] using hv
 |x::xs,vs=>λhv=>by rw[cn] at hv⊢;obtain⟨u,us,e,h1,h2⟩:=hv;exact⟨u,us,e,vj h x u h1,fE h xs us h2⟩
theorem Ge {μ μ':Mu} (h:μ.le μ') (sz b:Nat):∀(xs:List (List AV)) (off:Nat),kJ μ sz b xs off->kJ μ' sz b xs off
 |[],off=>λ_=>by simp[kJ]
 |x::xs,off=>λhv=>by rw[kJ] at hv⊢;obtain⟨⟨vs,h1,h2,h3,h4⟩,h5⟩:=hv;exact⟨⟨vs,fE h x vs h1,h2,h3,λj u hu=>h _ _ _ (h4 j u hu)⟩,Ge h sz b xs _ h5⟩
end
def j8.mono {μ μ':Mu} (h:μ.le μ') {l:List AV} {q:List Value} (k:j8 μ l q):j8 μ' l q:=⟨fE h _ _ k.1,k.2⟩
section
variable {μ:Mu}
theorem dg:cn μ [] []:=by simp[cn]
theorem bN {x:AV} {xs:List AV} {v:Value} {l:List Value} (h:rep μ x v) (k:cn μ xs l):cn μ (x::xs) (v::l):=by rw[cn];exact⟨v,l,rfl,h,k⟩
theorem nK {xs:List AV} {l:List Value} (h:cn μ xs l):l.length=xs.length:=by induction xs generalizing l with
 |nil=>rw[cn] at h;subst h;rfl
 |cons x xs w=>rw[cn] at h;obtain⟨u,z,rfl,_,q⟩:=h;simp[w q]
def sw {xs:List AV} {q:List Value} (h:cn μ xs q) {i:Nat} {x:AV} (l:xs[i]? =some x):∃v,q[i]? =some v/\rep μ x v:=by induction xs generalizing q i with
 |nil=>simp at l
 |cons y xs F=>rw[cn] at h;obtain⟨u,G,rfl,w,z⟩:=h;cases i with
  |zero=>simp at l;subst l;exact⟨u,by simp,w⟩
  |succ i=>simp at l;obtain⟨v,D,B⟩:=F z l;exact⟨v,by simpa using D,B⟩
theorem nJ {xs w:List AV} {l q:List Value} (h:cn μ xs l) (k:cn μ w q):cn μ (xs++w) (l++q):=by induction xs generalizing l with
 |nil=>rw[cn] at h;subst h;simpa using k
 |cons x xs D=>rw[cn] at h;obtain⟨u,F,rfl,z,B⟩:=h;exact bN z (D B)
def RO {xs:List AV} {l:List Value} (h:cn μ xs l) (n:Nat):cn μ (xs.drop n) (l.drop n):=by induction n generalizing xs l with
 |zero=>simpa using h
 |succ n w=>cases xs with
  |nil=>rw[cn] at h;subst h;simp[cn]
  |cons x xs=>rw[cn] at h;obtain⟨u,z,rfl,_,q⟩:=h;simpa using w q
def RQ {xs:List AV} {l:List Value} (h:cn μ xs l) (n:Nat):cn μ (xs.take n) (l.take n):=by induction n generalizing xs l with
 |zero=>simp[cn]
 |succ n z=>cases xs with
  |nil=>rw[cn] at h;subst h;simp[cn]
  |cons x xs=>rw[cn] at h;obtain⟨u,B,rfl,q,w⟩:=h;simpa using bN q (z w)
theorem j8.drop {l:List AV} {q:List Value} (h:j8 μ l q) (n:Nat):j8 μ (l.drop n) (q.drop n):=
 ⟨RO h.1 n,λu w=>h.2 u (uJ w)⟩
theorem j8.take {l:List AV} {q:List Value} (h:j8 μ l q) (n:Nat):j8 μ (l.take n) (q.take n):=
 ⟨RQ h.1 n,λu w=>h.2 u (uK w)⟩
def j8.append {l q:List AV} {z w:List Value} (h:j8 μ l z) (k:j8 μ q w):j8 μ (l++q) (z++w):=
 ⟨nJ h.1 k.1,λu B=>(bw.1 B).elim (h.2 u) (k.2 u)⟩
def j8.length {cs:List AV} {l:List Value} (h:j8 μ cs l):l.length=cs.length:=nK h.1
def LR {x:AV} {v:Value} (h:rep μ x v) (F:∀q,x≠ .lR q):j8 μ x.cells v.cells.toList:=by cases x with
 |agg z=>rw[rep] at h;obtain⟨q,rfl,B,D⟩:=h;exact⟨by simpa[AV.cells,Value.cells] using B,by simpa[Value.cells] using D⟩
 |lR q=>exact absurd rfl (F q)
 |dK N xs=>have l:=h;rw[rep] at l;obtain⟨A,c,rfl,_⟩:=l;exact⟨bN h dg,by simp[Value.cells,Value.oneCell']⟩
 |fn f w=>have l:=h;rw[rep] at l;obtain⟨q,rfl,_⟩:=l;exact⟨bN h dg,by simp[Value.cells,Value.oneCell']⟩
 |ref z=>have l:=h;rw[rep] at l;obtain⟨b,G,q,rfl,_⟩:=l;exact⟨bN h dg,by simp[Value.cells,Value.oneCell']⟩
 |self n=>rw[rep] at h;exact h.elim
 |DQ=>have l:=h;rw[rep] at l;subst l;exact⟨bN h dg,by simp[Value.cells,Value.oneCell']⟩
 |qm=>have l:=h;rw[rep] at l;subst l;exact⟨bN h dg,by simp[Value.cells,Value.oneCell']⟩
 |hole=>have l:=h;rw[rep] at l;rw[l.2];exact⟨bN h dg,by simp[l.1]⟩
 |mp K H=>
  have l:=h;rw[rep] at l;rcases l with⟨rfl,_⟩|⟨b,L,I,rfl,_⟩
  .exact⟨bN h dg,by simp[Value.cells,Value.oneCell']⟩
  .exact⟨bN h dg,by simp[Value.cells,Value.oneCell']⟩
 |bool b=>have l:=h;rw[rep] at l;subst l;exact⟨bN h dg,by simp[Value.cells,Value.oneCell']⟩
 |int k n=>have l:=h;rw[rep] at l;subst l;exact⟨bN h dg,by simp[Value.cells,Value.oneCell']⟩
 |str s=>have l:=h;rw[rep] at l;subst l;exact⟨bN h dg,by simp[Value.cells,Value.oneCell']⟩
def Cq {q b:Nat} {xs:List (List AV)} {l:Nat} (h:kJ μ q b xs l) {i:Nat} {x:List AV} (w:xs[i]? =some x):
  ∃z:List Value,j8 μ x z/\z.length=q/\∀j u,z[j]? =some u->μ b (l+(i *q)+j)=some u:=by
 induction xs generalizing l i with
 |nil=>simp at w
 |cons y xs L=>rw[kJ] at h;obtain⟨⟨z,D,F,G,H⟩,I⟩:=h;cases i with
  |zero=>simp at w;subst w;exact⟨z,⟨D,F⟩,G,by simpa using H⟩
  |succ i=>simp at w;obtain⟨B,N,O,P⟩:=L I w;refine⟨B,N,O,λj u K=> ?_⟩;have:=P j u K;rwa[show l+q+i *q+j=l+(i+1) *q+j from by rw[kj];omega] at this
def RR {q b:Nat} {xs:List (List AV)} {l:Nat} (h:kJ μ q b xs l) (n:Nat) (w:n<=xs.length):kJ μ q b (xs.drop n) (l+n *q):=by induction n generalizing xs l with
 |zero=>simpa using h
 |succ n z=>cases xs with
  |nil=>simp at w
  |cons x xs=>rw[kJ] at h;have:=z h.2 (by simpa using w);rw[List.drop_succ_cons];rwa[show l+(n+1) *q=l+q+n *q from by rw[kj];omega]
def RS {q b:Nat} {xs:List (List AV)} {l:Nat} (h:kJ μ q b xs l) (n:Nat):kJ μ q b (xs.take n) l:=by induction n generalizing xs l with
 |zero=>simp[kJ]
 |succ n w=>cases xs with
  |nil=>simp[kJ]
  |cons x xs=>rw[List.take_succ_cons];rw[kJ] at h⊢;exact⟨h.1,w h.2⟩
end
def fH:Value->Value
 | .tuple l=>l.getD 0 undef
 |v=>v
def repCap (μ:Mu) (l:Nat->Value):pY->Value->Prop
 | .v a,u=>rep μ a u
 | .p id,u=>∃b,l id= .pointer (some ⟨b,0,none⟩)/\u= .pointer (some ⟨b,0,none⟩)
 | .r id,u=>u=fH (l id)
def j9 (μ:Mu) (l:Nat->Value):List pY->List Value->Prop
 |[],q=>q=[]
 |c::z,q=>∃u w,q=u::w/\repCap μ l c u/\j9 μ l z w
def clV (g:Nat) (l:List Value):Value:=
 bif Nat.blt g 1000000 then .func (.func g) #[] l.toArray
 else bif Nat.blt g 2000000 then .func (.func (g-1000000)) l.toArray #[]
 else match l with
  |[.pointer (some a)]=> .func (.yield a.block) #[] #[]
  |_=> .func (.func 0) #[] #[]
def xm:Ak->Value->Value->Prop
 | .full,v,u=>∃A n c,v= .slice A n c/\u= .slice A n n
 | .nr i,v,u=>∃(m:Value) (l:List Value),v= .tuple (m::l).toArray/\(∃A n c,m= .slice A n c)/\∀x,l[i]? =some x->x=undef\/x=u
def gH (μ:Mu) (l:Nat->Value):SV->Value->Prop
 | .undef,u=>u=undef
 | .any,_=>True
 | .pv v,u=>rep μ v u
 | .ptr id w,u=>∃b,l id= .pointer (some ⟨b,0,none⟩)/\u= .pointer (some ⟨b,w,none⟩)
 | .row id,u=>u=fH (l id)
 | .rp id H i w,u=>∃g n c,fH (l id)= .slice (some ⟨g,0,none⟩) n c/\u= .pointer (some ⟨g,i *H+w,none⟩)
 | .sub id H D F,u=>∃A n c G c',l id= .slice A n c/\D<=F/\F<=n/\F-D<=c'/\u= .slice G (F-D) c'/\(D=0->G=A/\c'=c)/\(D<F->∃g,A=some ⟨g,0,none⟩/\G=some ⟨g,D *H,none⟩)
 | .cp I,u=>∃b w B,u= .pointer (some ⟨b,w,none⟩)/\j8 μ I B/\∀j v,B[j]? =some v->μ b (w+j)=some v
 | .cl f z,u=>∃B:List Value,u=clV f B/\j9 μ l z B
 | .two s b,u=>∃x,u= .tuple #[x, .bool b]/\gH μ l s x
 | .ag z,u=>∃B:List Value,u= .agg B.toArray/\j9 μ l z B/\∀x∈B,x.oneCell'=true
 | .aq id q,u=>xm q (l id) u
def iF (μ:Mu) (l:Nat->Value):List SV->List Value->Prop
 |[],q=>q=[]
 |x::xs,q=>∃u w,q=u::w/\gH μ l x u/\iF μ l xs w
def c4 (μ:Mu) (w:Nat):List (List AV)->List Value->Prop
 |[],q=>q=[]
 |x::xs,q=>∃l ws,q=l++ws/\j8 μ x l/\l.length=w/\c4 μ w xs ws
def bC:Value->Option Nat
 | .pointer (some a)=>some a.block
 | .slice (some a) _ _=>some a.block
 | .map (some b)=>some b
 |_=>none
def jw (v:Value) (b:Nat):Prop:=bC v=some b\/∃l:List Value,v= .tuple l.toArray/\∃u∈l,bC u=some b
structure Qp where
 p:Prop
 lp:List AV->Mu->World->List Value->Prop:=λ_ _ _ _=>False
 mono:∀{xs:List AV} {μ μ':Mu} {w:World} {us:List Value},μ.le μ'->lp xs μ w us->lp xs μ' w us:=by exact λ_ h=>h
 keep:∀{xs:List AV} {μ:Mu} {w w':World} {us:List Value},(∀b,(∃u∈us,bC u=some b)->w'.heap[b]? =w.heap[b]?)->lp xs μ w us->lp xs μ w' us:=by exact λ_ h=>h.elim
instance:CoeSort Qp Prop:=⟨Qp.p⟩
instance:Coe Prop Qp:=⟨λp=>{ p:=p,mono:=λ_ h=>h,keep:=λ_ h=>h.elim }⟩
structure rV where
 f:Nat->Option Value
 q:Qp
instance:CoeFun rV (λ_=>Nat->Option Value):=⟨rV.f⟩
def Lu (L:rV) (b:Nat):Prop:=∃id v,L id=some v/\jw v b
def E6 (l:Nat) (L:rV) (id b:Nat):Prop:=l<=b\/∃v,L id=some v/\jw v b
def Xr (cN:Array MapEntry) (l:Nat):Prop:=(∀x∈cN.toList,x.born<l)/\(cN.toList.map (·.born)).Nodup
def lU (G:Nat) (L:rV) (μ:Mu) (l:Nat->Value) (w:World) (id:Nat):Ob->Prop
 | .box t cells=>∃(b:Nat) (D:List Value),l id= .pointer (some ⟨b,0,none⟩)/\E6 G L id b/\w.heap[b]? =some (.cells D.toArray t (0,0))/\(∀j,μ b j=none)/\iF μ l cells D/\∀u∈D,u.oneCell'=true
 | .row e F xs=>∃D:List Value,w.ownsRow 0 e F (l id) xs.length D/\c4 μ F xs D/\∀g,jw (l id) g->E6 G L id g/\∀j,μ g j=none
 | .mp k e K O=>∃(b:Nat) (cN:Array MapEntry) (z:Nat),l id= .map (some b)/\E6 G L id b/\w.heap[b]? =some (.map cN z)/\(∀j,μ b j=none)/\cn μ K (cN.toList.map (·.key))/\cn μ O (cN.toList.map (·.val))/\Xr cN z
 | .mr k e F K D=>∃(b:Nat) (cN:Array MapEntry) (z:Nat) (B:List Value),l id= .tuple (.map (some b)::B).toArray/\G<=b/\w.heap[b]? =some (.map cN z)/\(∀j,μ b j=none)/\
   cn μ K (cN.toList.map (·.key))/\B.length=D.length/\cN.size=D.length/\
   (∀(i:Nat) xs,D[i]? =some (some xs)->∃(u:Value) (cells:List Value),B[i]? =some u/\(cN.toList.map (·.val))[i]? =some u/\w.ownsRow 0 e F u xs.length cells/\c4 μ F xs cells/\∀g,bC u=some g->G<=g/\∀j,μ g j=none)/\
   (∀i:Nat,D[i]? =some none->B[i]? =some undef)/\
   (∀(i j:Nat) (u v:Value),B[i]? =some u->B[j]? =some v->i≠j->∀g,bC u=some g->bC v≠some g)
 | .rn e F k N H xs I=>∃(m:Value) (B D:List Value),l id= .tuple (m::B).toArray/\(∀q,bC m=some q->E6 G L id q/\∀j,μ q j=none)/\w.ownsRow 0 e F m xs.length D/\c4 μ F xs D/\(k<F/\∀c∈xs,c[k]? =some AV.hole)/\
   B.length=I.length/\xs.length=I.length/\
   (∀(i:Nat) zs,I[i]? =some (some zs)->∃(u:Value) (cells:List Value),B[i]? =some u/\D[i *F+k]? =some u/\w.ownsRow 0 N H u zs.length cells/\c4 μ H zs cells/\∀g,bC u=some g->E6 G L id g/\∀j,μ g j=none)/\
   (∀i:Nat,I[i]? =some none->B[i]? =some undef)/\
   (∀u∈B,∀g,bC u=some g->bC m≠some g)/\
   (∀(i j:Nat) (u v:Value),B[i]? =some u->B[j]? =some v->i≠j->∀g,bC u=some g->bC v≠some g)
 | .it s pos=>∃b,l id= .pointer (some ⟨b,0,none⟩)/\E6 G L id b/\w.heap[b]? =some (.stringIter ⟨s.toArray⟩ pos)/\∀j,μ b j=none
 | .lp xs=>∃B:List Value,l id= .tuple B.toArray/\(∀g,jw (l id) g->E6 G L id g/\g<w.heap.size/\∀j,μ g j=none)/\L.q.lp xs μ w B
def Mu.ext (n:Nat) (μ l:Mu):Prop:=μ.le l/\∀b j v,l b j=some v->μ b j=some v\/n<=b
structure Rel (N:Nat) (w0:World) (μ0:Mu) (L:rV) (μ:Mu) (loc:Nat->Value) (st:St) (a:Act) (w:World):Prop where
 small:N<=10000
 names:∀id,id<10000->L id=none
 fix:∀id v,L id=some v->id<20000->loc id=v
 size:a.tmps.size=N
 defers:a.defers=[]
 env:∀i sv,st.env i=some sv->∃v,a.tmps[i]? =some v/\gH μ loc sv v
 uy:∀b j v,μ b j=some v->ED w b j=some v
 base:μ0.ext w0.heap.size μ
 obs:∀id o,st.ob id=some o->lU w0.heap.size L μ loc w id o
 apart:∀i j oi oj,st.ob i=some oi->st.ob j=some oj->i≠j->∀g,jw (loc i) g->¬jw (loc j) g
 keep:∀b,b<w0.heap.size->¬Lu L b->w.heap[b]? =w0.heap[b]?
 os:w.os=w0.os
 tape:w.tape=w0.tape
 output:w.output=w0.output
 grown:w0.heap.size<=w.heap.size
 drawn:L.q->w0.drawn<=w.drawn
