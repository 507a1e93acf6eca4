/- THE ABSTRACT MACHINE. -/
import Derived.Test.YthppjmoncapdfaaGreatDoorAmDefs
set_option linter.all false
namespace Go.AM
abbrev Mu:=Nat->Nat->Option Value
def uW (l q:List Value):Value:= .tuple #[.tuple l.toArray, .tuple q.toArray]
def Eo (w:World) (b j:Nat):Option Value:=
 match w.heap[b]? with
 |some (.cells c _ _)=>(c[j]?).bind λv=>if v.oneCell'=true then some v else none
 |some (.map l _)=>if j=0 then some (uW (l.toList.map (·.key)) (l.toList.map (·.val))) else none
 |_=>none
def s7 {w:World} {b j:Nat} {v:Value} (h:Eo w b j=some v) (l:v.oneCell'=true):w.cell? ⟨b,j,none⟩=some v:=by
 unfold Eo at h;unfold World.cell?;split at h
 .rename_i c t q z;simp only[z];obtain⟨u,B,h⟩:=dL.1 h;split at h
  .injection h with h;subst h;simpa using B
  .cases h
 .split at h
  .injection h with h;subst h;simp[uW,Value.oneCell'] at l
  .cases h
 .cases h
def s8 {w:World} {b j:Nat} {v:Value} (h:w.cell? ⟨b,j,none⟩=some v) (z:v.oneCell'=true):Eo w b j=some v:=by
 unfold World.cell? at h;unfold Eo;split at h
 .rename_i c t q B;simp only[B];have l:c[j]? =some v:=by simpa using h
  simp[l,z]
 .cases h
def see_map {w:World} {b:Nat} {B z:List Value} (h:Eo w b 0=some (uW B z)):∃cM l,w.heap[b]? =some (.map cM l)/\B=cM.toList.map (·.key)/\z=cM.toList.map (·.val):=by
 unfold Eo at h;split at h
 .obtain⟨u,H,h⟩:=dL.1 h;split at h
  .rename_i q;injection h with h;subst h;simp[uW,Value.oneCell'] at q
  .cases h
 .rename_i F l G;simp only[fQ,aM,uW,Value.tuple.injEq] at h;have q:=aJ Array.toList h;simp only[dM,Value.tuple.injEq,fD] at q;have e1:=aJ Array.toList q.1;have D:=aJ Array.toList q.2;exact⟨F,l,G,by simpa using e1.symm,by simpa using D.symm⟩
 .cases h
def Jv {w:World} {b:Nat} {cM:Array MapEntry} {l:Nat} (h:w.heap[b]? =some (.map cM l)):Eo w b 0=some (uW (cM.toList.map (·.key)) (cM.toList.map (·.val))):=by unfold Eo;rw[h];simp
def lP {w:World} {b j:Nat} {v:Value} (h:Eo w b j=some v):b<w.heap.size:=by
 unfold Eo at h;split at h
 .rename_i c t q l;exact(eC.1 l).1
 .rename_i B z l;exact(eC.1 l).1
 .cases h
theorem fN {w l:World} {b:Nat} (h:l.heap[b]? =w.heap[b]?) (j:Nat):Eo l b j=Eo w b j:=by unfold Eo;rw[h]
mutual
def rep (μ:Mu):AV->Value->Prop
 | .bool b,v=>v= .bool b
 | .int k n,v=>v= .int k n
 | .str s,v=>v= .string ⟨s.toArray⟩
 | .dH sz xs,v=>∃A c,v= .slice A xs.length c/\xs.length<=c/\c<=maxLen/\(xs.length=0\/∃b off,A=some ⟨b,off,none⟩/\kH μ sz b xs off)
 | .agg cs,v=>∃vs:List Value,v= .agg vs.toArray/\b9 μ cs vs/\∀u∈vs,u.oneCell'=true
 | .fn f caps,v=>∃vs:List Value,v= .func (.func f) #[] vs.toArray/\b9 μ caps vs
 | .lQ cs,v=>∃vs:List Value,v= .tuple vs.toArray/\b9 μ cs vs
 | .ref cs,v=>∃(b off:Nat) (vs:List Value),v= .pointer (some ⟨b,off,none⟩)/\b9 μ cs vs/\(∀u∈vs,u.oneCell'=true)/\∀j u,vs[j]? =some u->μ b (off+j)=some u
 | .self _,_=>False
 | .DF,v=>v= .pointer none
 | .qk,v=>v= .slice none 0 0
 | .hole,v=>v.oneCell'=true/\v.cells= #[v]
 | .mp ks es,v=>(v= .map none/\ks=[]/\es=[])\/∃(b:Nat) (kv ev:List Value),v= .map (some b)/\b9 μ ks kv/\b9 μ es ev/\μ b 0=some (uW kv ev)
def b9 (μ:Mu):List AV->List Value->Prop
 |[],vs=>vs=[]
 |x::xs,vs=>∃u us,vs=u::us/\rep μ x u/\b9 μ xs us
def kH (μ:Mu) (sz b:Nat):List (List AV)->Nat->Prop
 |[],_=>True
 |x::xs,off=>(∃vs:List Value,b9 μ x vs/\(∀u∈vs,u.oneCell'=true)/\vs.length=sz/\∀j u,vs[j]? =some u->μ b (off+j)=some u)/\kH μ sz b xs (off+sz)
end
def j4 (μ:Mu) (q:List AV) (l:List Value):Prop:=b9 μ q l/\∀u∈l,u.oneCell'=true
def Mu.le (μ l:Mu):Prop:=∀b j v,μ b j=some v->l b j=some v
theorem Mu.le.refl (μ:Mu):μ.le μ:=λ_ _ _ h=>h
theorem Mu.le.trans {a b c:Mu} (h:a.le b) (k:b.le c):a.le c:=λx y v l=>k _ _ _ (h _ _ _ l)
mutual
theorem vf {μ μ':Mu} (h:μ.le μ'):∀(x:AV) (v:Value),rep μ x v->rep μ' x v
 | .bool b,v=>λhv=>by simpa[rep] using hv
 | .int k n,v=>λhv=>by simpa[rep] using hv
 | .str s,v=>λhv=>by simpa[rep] using hv
 | .dH sz xs,v=>λhv=>by rw[rep] at hv⊢;obtain⟨A,c,e,h1,h2,h3⟩:=hv;exact⟨A,c,e,h1,h2,h3.imp id λ⟨b,off,ea,hr⟩=>⟨b,off,ea,F1 h sz b xs off hr⟩⟩
 | .agg cs,v=>λhv=>by rw[rep] at hv⊢;obtain⟨vs,e,h1,h2⟩:=hv;exact⟨vs,e,fC h cs vs h1,h2⟩
 | .fn f caps,v=>λhv=>by rw[rep] at hv⊢;obtain⟨vs,e,h1⟩:=hv;exact⟨vs,e,fC h caps vs h1⟩
 | .lQ cs,v=>λhv=>by rw[rep] at hv⊢;obtain⟨vs,e,h1⟩:=hv;exact⟨vs,e,fC h cs vs h1⟩
 | .ref cs,v=>λhv=>by rw[rep] at hv⊢;obtain⟨b,off,vs,e,h1,h2,h3⟩:=hv;exact⟨b,off,vs,e,fC h cs vs h1,h2,λj u hu=>h _ _ _ (h3 j u hu)⟩
 | .self n,v=>λhv=>by rw[rep] at hv;exact hv.elim
 | .DF,v=>λhv=>by simpa[rep] using hv
 | .qk,v=>λhv=>by simpa[rep] using hv
 | .hole,v=>λhv=>by simpa[rep] using hv
 | .mp ks es,v=>λhv=>by
  rw[rep] at hv⊢;rcases hv with hv|⟨b,kv,ev,e,h1,h2,h3⟩
  .exact .inl hv
  .exact .inr ⟨b,kv,ev,e,fC h ks kv h1,fC h es ev h2,h _ _ _ h3⟩
theorem fC {μ μ':Mu} (h:μ.le μ'):∀(xs:List AV) (vs:List Value),b9 μ xs vs->b9 μ' xs vs
 |[],vs=>λhv=>by simpa[b9] using hv
 |x::xs,vs=>λhv=>by rw[b9] at hv⊢;obtain⟨u,us,e,h1,h2⟩:=hv;exact⟨u,us,e,vf h x u h1,fC h xs us h2⟩
theorem F1 {μ μ':Mu} (h:μ.le μ') (sz b:Nat):∀(xs:List (List AV)) (off:Nat),kH μ sz b xs off->kH μ' sz b xs off
 |[],off=>λ_=>by simp[kH]
 |x::xs,off=>λhv=>by rw[kH] at hv⊢;obtain⟨⟨vs,h1,h2,h3,h4⟩,h5⟩:=hv;exact⟨⟨vs,fC h x vs h1,h2,h3,λj u hu=>h _ _ _ (h4 j u hu)⟩,F1 h sz b xs _ h5⟩
end
def j4.mono {μ μ':Mu} (h:μ.le μ') {l:List AV} {q:List Value} (k:j4 μ l q):j4 μ' l q:=⟨fC h _ _ k.1,k.2⟩
section
variable {μ:Mu}
theorem dg:b9 μ [] []:=by simp[b9]
theorem bP {x:AV} {xs:List AV} {v:Value} {l:List Value} (h:rep μ x v) (k:b9 μ xs l):b9 μ (x::xs) (v::l):=by rw[b9];exact⟨v,l,rfl,h,k⟩
theorem nH {xs:List AV} {l:List Value} (h:b9 μ xs l):l.length=xs.length:=by induction xs generalizing l with
 |nil=>rw[b9] at h;subst h;rfl
 |cons x xs w=>rw[b9] at h;obtain⟨u,z,rfl,_,q⟩:=h;simp[w q]
def sg {xs:List AV} {q:List Value} (h:b9 μ xs q) {i:Nat} {x:AV} (l:xs[i]? =some x):∃v,q[i]? =some v/\rep μ x v:=by induction xs generalizing q i with
 |nil=>simp at l
 |cons y xs F=>rw[b9] at h;obtain⟨u,G,rfl,w,z⟩:=h;cases i with
  |zero=>simp at l;subst l;exact⟨u,by simp,w⟩
  |succ i=>simp at l;obtain⟨v,D,B⟩:=F z l;exact⟨v,by simpa using D,B⟩
theorem nG {xs w:List AV} {l q:List Value} (h:b9 μ xs l) (k:b9 μ w q):b9 μ (xs++w) (l++q):=by induction xs generalizing l with
 |nil=>rw[b9] at h;subst h;simpa using k
 |cons x xs D=>rw[b9] at h;obtain⟨u,F,rfl,z,B⟩:=h;exact bP z (D B)
def RE {xs:List AV} {l:List Value} (h:b9 μ xs l) (n:Nat):b9 μ (xs.drop n) (l.drop n):=by induction n generalizing xs l with
 |zero=>simpa using h
 |succ n w=>cases xs with
  |nil=>rw[b9] at h;subst h;simp[b9]
  |cons x xs=>rw[b9] at h;obtain⟨u,z,rfl,_,q⟩:=h;simpa using w q
def RG {xs:List AV} {l:List Value} (h:b9 μ xs l) (n:Nat):b9 μ (xs.take n) (l.take n):=by induction n generalizing xs l with
 |zero=>simp[b9]
 |succ n z=>cases xs with
  |nil=>rw[b9] at h;subst h;simp[b9]
  |cons x xs=>rw[b9] at h;obtain⟨u,B,rfl,q,w⟩:=h;simpa using bP q (z w)
theorem j4.drop {l:List AV} {q:List Value} (h:j4 μ l q) (n:Nat):j4 μ (l.drop n) (q.drop n):=
 ⟨RE h.1 n,λu w=>h.2 u (uE w)⟩
theorem j4.take {l:List AV} {q:List Value} (h:j4 μ l q) (n:Nat):j4 μ (l.take n) (q.take n):=
 ⟨RG h.1 n,λu w=>h.2 u (uF w)⟩
def j4.append {l q:List AV} {z w:List Value} (h:j4 μ l z) (k:j4 μ q w):j4 μ (l++q) (z++w):=
 ⟨nG h.1 k.1,λu B=>(bu.1 B).elim (h.2 u) (k.2 u)⟩
def j4.length {cs:List AV} {l:List Value} (h:j4 μ cs l):l.length=cs.length:=nH h.1
def LH {x:AV} {v:Value} (h:rep μ x v) (F:∀q,x≠ .lQ q):j4 μ x.cells v.cells.toList:=by cases x with
 |agg z=>rw[rep] at h;obtain⟨q,rfl,B,D⟩:=h;exact⟨by simpa[AV.cells,Value.cells] using B,by simpa[Value.cells] using D⟩
 |lQ q=>exact absurd rfl (F q)
 |dH N xs=>have l:=h;rw[rep] at l;obtain⟨A,c,rfl,_⟩:=l;exact⟨bP h dg,by simp[Value.cells,Value.oneCell']⟩
 |fn f w=>have l:=h;rw[rep] at l;obtain⟨q,rfl,_⟩:=l;exact⟨bP h dg,by simp[Value.cells,Value.oneCell']⟩
 |ref z=>have l:=h;rw[rep] at l;obtain⟨b,G,q,rfl,_⟩:=l;exact⟨bP h dg,by simp[Value.cells,Value.oneCell']⟩
 |self n=>rw[rep] at h;exact h.elim
 |DF=>have l:=h;rw[rep] at l;subst l;exact⟨bP h dg,by simp[Value.cells,Value.oneCell']⟩
 |qk=>have l:=h;rw[rep] at l;subst l;exact⟨bP h dg,by simp[Value.cells,Value.oneCell']⟩
 |hole=>have l:=h;rw[rep] at l;rw[l.2];exact⟨bP h dg,by simp[l.1]⟩
 |mp K H=>
  have l:=h;rw[rep] at l;rcases l with⟨rfl,_⟩|⟨b,L,I,rfl,_⟩
  .exact⟨bP h dg,by simp[Value.cells,Value.oneCell']⟩
  .exact⟨bP h dg,by simp[Value.cells,Value.oneCell']⟩
 |bool b=>have l:=h;rw[rep] at l;subst l;exact⟨bP h dg,by simp[Value.cells,Value.oneCell']⟩
 |int k n=>have l:=h;rw[rep] at l;subst l;exact⟨bP h dg,by simp[Value.cells,Value.oneCell']⟩
 |str s=>have l:=h;rw[rep] at l;subst l;exact⟨bP h dg,by simp[Value.cells,Value.oneCell']⟩
def Ck {q b:Nat} {xs:List (List AV)} {l:Nat} (h:kH μ q b xs l) {i:Nat} {x:List AV} (w:xs[i]? =some x):
  ∃z:List Value,j4 μ x z/\z.length=q/\∀j u,z[j]? =some u->μ b (l+(i *q)+j)=some u:=by
 induction xs generalizing l i with
 |nil=>simp at w
 |cons y xs L=>rw[kH] at h;obtain⟨⟨z,D,F,G,H⟩,I⟩:=h;cases i with
  |zero=>simp at w;subst w;exact⟨z,⟨D,F⟩,G,by simpa using H⟩
  |succ i=>simp at w;obtain⟨B,N,O,P⟩:=L I w;refine⟨B,N,O,λj u K=> ?_⟩;have:=P j u K;rwa[show l+q+i *q+j=l+(i+1) *q+j from by rw[j8];omega] at this
def RH {q b:Nat} {xs:List (List AV)} {l:Nat} (h:kH μ q b xs l) (n:Nat) (w:n<=xs.length):kH μ q b (xs.drop n) (l+n *q):=by induction n generalizing xs l with
 |zero=>simpa using h
 |succ n z=>cases xs with
  |nil=>simp at w
  |cons x xs=>rw[kH] at h;have:=z h.2 (by simpa using w);rw[List.drop_succ_cons];rwa[show l+(n+1) *q=l+q+n *q from by rw[j8];omega]
def RI {q b:Nat} {xs:List (List AV)} {l:Nat} (h:kH μ q b xs l) (n:Nat):kH μ q b (xs.take n) l:=by induction n generalizing xs l with
 |zero=>simp[kH]
 |succ n w=>cases xs with
  |nil=>simp[kH]
  |cons x xs=>rw[List.take_succ_cons];rw[kH] at h⊢;exact⟨h.1,w h.2⟩
end
def fE:Value->Value
 | .tuple l=>l.getD 0 undef
 |v=>v
def repCap (μ:Mu) (l:Nat->Value):pV->Value->Prop
 | .v a,u=>rep μ a u
 | .p id,u=>∃b,l id= .pointer (some ⟨b,0,none⟩)/\u= .pointer (some ⟨b,0,none⟩)
 | .r id,u=>u=fE (l id)
def j5 (μ:Mu) (l:Nat->Value):List pV->List Value->Prop
 |[],q=>q=[]
 |c::z,q=>∃u w,q=u::w/\repCap μ l c u/\j5 μ l z w
def clV (g:Nat) (l:List Value):Value:=
 bif Nat.blt g 1000000 then .func (.func g) #[] l.toArray
 else bif Nat.blt g 2000000 then .func (.func (g-1000000)) l.toArray #[]
 else match l with
  |[.pointer (some a)]=> .func (.yield a.block) #[] #[]
  |_=> .func (.func 0) #[] #[]
def w6:Ak->Value->Value->Prop
 | .full,v,u=>∃A n c,v= .slice A n c/\u= .slice A n n
 | .nr i,v,u=>∃(m:Value) (l:List Value),v= .tuple (m::l).toArray/\(∃A n c,m= .slice A n c)/\∀x,l[i]? =some x->x=undef\/x=u
def gG (μ:Mu) (l:Nat->Value):SV->Value->Prop
 | .undef,u=>u=undef
 | .any,_=>True
 | .pv v,u=>rep μ v u
 | .ptr id w,u=>∃b,l id= .pointer (some ⟨b,0,none⟩)/\u= .pointer (some ⟨b,w,none⟩)
 | .row id,u=>u=fE (l id)
 | .rp id H i w,u=>∃g n c,fE (l id)= .slice (some ⟨g,0,none⟩) n c/\u= .pointer (some ⟨g,i *H+w,none⟩)
 | .sub id H D F,u=>∃A n c G c',l id= .slice A n c/\D<=F/\F<=n/\F-D<=c'/\u= .slice G (F-D) c'/\(D=0->G=A/\c'=c)/\(D<F->∃g,A=some ⟨g,0,none⟩/\G=some ⟨g,D *H,none⟩)
 | .cp I,u=>∃b w B,u= .pointer (some ⟨b,w,none⟩)/\j4 μ I B/\∀j v,B[j]? =some v->μ b (w+j)=some v
 | .cl f z,u=>∃B:List Value,u=clV f B/\j5 μ l z B
 | .two s b,u=>∃x,u= .tuple #[x, .bool b]/\gG μ l s x
 | .ag z,u=>∃B:List Value,u= .agg B.toArray/\j5 μ l z B/\∀x∈B,x.oneCell'=true
 | .at id q,u=>w6 q (l id) u
def iC (μ:Mu) (l:Nat->Value):List SV->List Value->Prop
 |[],q=>q=[]
 |x::xs,q=>∃u w,q=u::w/\gG μ l x u/\iC μ l xs w
def cW (μ:Mu) (w:Nat):List (List AV)->List Value->Prop
 |[],q=>q=[]
 |x::xs,q=>∃l ws,q=l++ws/\j4 μ x l/\l.length=w/\cW μ w xs ws
def bA:Value->Option Nat
 | .pointer (some a)=>some a.block
 | .slice (some a) _ _=>some a.block
 | .map (some b)=>some b
 |_=>none
def js (v:Value) (b:Nat):Prop:=bA v=some b\/∃l:List Value,v= .tuple l.toArray/\∃u∈l,bA u=some b
structure Qp where
 p:Prop
 lp:List AV->Mu->World->List Value->Prop:=λ_ _ _ _=>False
 mono:∀{xs:List AV} {μ μ':Mu} {w:World} {us:List Value},μ.le μ'->lp xs μ w us->lp xs μ' w us:=by exact λ_ h=>h
 keep:∀{xs:List AV} {μ:Mu} {w w':World} {us:List Value},(∀b,(∃u∈us,bA u=some b)->w'.heap[b]? =w.heap[b]?)->lp xs μ w us->lp xs μ w' us:=by exact λ_ h=>h.elim
instance:CoeSort Qp Prop:=⟨Qp.p⟩
instance:Coe Prop Qp:=⟨λp=>{ p:=p,mono:=λ_ h=>h,keep:=λ_ h=>h.elim }⟩
structure rV where
 f:Nat->Option Value
 q:Qp
instance:CoeFun rV (λ_=>Nat->Option Value):=⟨rV.f⟩
def Lj (L:rV) (b:Nat):Prop:=∃id v,L id=some v/\js v b
def ES (l:Nat) (L:rV) (id b:Nat):Prop:=l<=b\/∃v,L id=some v/\js v b
def Xe (cM:Array MapEntry) (l:Nat):Prop:=(∀x∈cM.toList,x.born<l)/\(cM.toList.map (·.born)).Nodup
def lT (G:Nat) (L:rV) (μ:Mu) (l:Nat->Value) (w:World) (id:Nat):Ob->Prop
 | .box t cells=>∃(b:Nat) (D:List Value),l id= .pointer (some ⟨b,0,none⟩)/\ES G L id b/\w.heap[b]? =some (.cells D.toArray t (0,0))/\(∀j,μ b j=none)/\iC μ l cells D/\∀u∈D,u.oneCell'=true
 | .row e F xs=>∃D:List Value,w.ownsRow 0 e F (l id) xs.length D/\cW μ F xs D/\∀g,js (l id) g->ES G L id g/\∀j,μ g j=none
 | .mp k e K O=>∃(b:Nat) (cM:Array MapEntry) (z:Nat),l id= .map (some b)/\ES G L id b/\w.heap[b]? =some (.map cM z)/\(∀j,μ b j=none)/\b9 μ K (cM.toList.map (·.key))/\b9 μ O (cM.toList.map (·.val))/\Xe cM z
 | .mr k e F K D=>∃(b:Nat) (cM:Array MapEntry) (z:Nat) (B:List Value),l id= .tuple (.map (some b)::B).toArray/\G<=b/\w.heap[b]? =some (.map cM z)/\(∀j,μ b j=none)/\
   b9 μ K (cM.toList.map (·.key))/\B.length=D.length/\cM.size=D.length/\
   (∀(i:Nat) xs,D[i]? =some (some xs)->∃(u:Value) (cells:List Value),B[i]? =some u/\(cM.toList.map (·.val))[i]? =some u/\w.ownsRow 0 e F u xs.length cells/\cW μ F xs cells/\∀g,bA u=some g->G<=g/\∀j,μ g j=none)/\
   (∀i:Nat,D[i]? =some none->B[i]? =some undef)/\
   (∀(i j:Nat) (u v:Value),B[i]? =some u->B[j]? =some v->i≠j->∀g,bA u=some g->bA v≠some g)
 | .rn e F k N H xs I=>∃(m:Value) (B D:List Value),l id= .tuple (m::B).toArray/\(∀q,bA m=some q->ES G L id q/\∀j,μ q j=none)/\w.ownsRow 0 e F m xs.length D/\cW μ F xs D/\(k<F/\∀c∈xs,c[k]? =some AV.hole)/\
   B.length=I.length/\xs.length=I.length/\
   (∀(i:Nat) zs,I[i]? =some (some zs)->∃(u:Value) (cells:List Value),B[i]? =some u/\D[i *F+k]? =some u/\w.ownsRow 0 N H u zs.length cells/\cW μ H zs cells/\∀g,bA u=some g->ES G L id g/\∀j,μ g j=none)/\
   (∀i:Nat,I[i]? =some none->B[i]? =some undef)/\
   (∀u∈B,∀g,bA u=some g->bA m≠some g)/\
   (∀(i j:Nat) (u v:Value),B[i]? =some u->B[j]? =some v->i≠j->∀g,bA u=some g->bA v≠some g)
 | .it s pos=>∃b,l id= .pointer (some ⟨b,0,none⟩)/\ES G L id b/\w.heap[b]? =some (.stringIter ⟨s.toArray⟩ pos)/\∀j,μ b j=none
 | .lp xs=>∃B:List Value,l id= .tuple B.toArray/\(∀g,js (l id) g->ES G L id g/\g<w.heap.size/\∀j,μ g j=none)/\L.q.lp xs μ w B
def Mu.ext (n:Nat) (μ l:Mu):Prop:=μ.le l/\∀b j v,l b j=some v->μ b j=some v\/n<=b
structure Rel (N:Nat) (w0:World) (μ0:Mu) (L:rV) (μ:Mu) (loc:Nat->Value) (st:St) (a:Act) (w:World):Prop where
 small:N<=10000
 names:∀id,id<10000->L id=none
 fix:∀id v,L id=some v->id<20000->loc id=v
 size:a.tmps.size=N
 defers:a.defers=[]
 env:∀i sv,st.env i=some sv->∃v,a.tmps[i]? =some v/\gG μ loc sv v
 ur:∀b j v,μ b j=some v->Eo w b j=some v
 base:μ0.ext w0.heap.size μ
 obs:∀id o,st.ob id=some o->lT w0.heap.size L μ loc w id o
 apart:∀i j oi oj,st.ob i=some oi->st.ob j=some oj->i≠j->∀g,js (loc i) g->¬js (loc j) g
 keep:∀b,b<w0.heap.size->¬Lj L b->w.heap[b]? =w0.heap[b]?
 os:w.os=w0.os
 tape:w.tape=w0.tape
 output:w.output=w0.output
 grown:w0.heap.size<=w.heap.size
 drawn:L.q->w0.drawn<=w.drawn
