/- THE ABSTRACT MACHINE. -/
import Derived.Test.YthphfjcnkinkpaaGreatDoorAmDefs
set_option linter.all false
namespace Go.AM
abbrev Mu:=Nat->Nat->Option Value
def wA (l q:List Value):Value:= .tuple #[.tuple l.toArray, .tuple q.toArray]
def Ii (w:World) (b j:Nat):Option Value:=
 match w.heap[b]? with
 |some (.cells c _ _)=>(c[j]?).bind λv=>if v.oneCell'=true then some v else none
 |some (.map l _)=>if j=0 then some (wA (l.toList.map (·.key)) (l.toList.map (·.val))) else none
 |_=>none
def za {w:World} {b j:Nat} {v:Value} (h:Ii w b j=some v) (l:v.oneCell'=true):w.cell? ⟨b,j,none⟩=some v:=by grind[Ii,World.cell?,wA,Value.oneCell']
def xL {w:World} {b j:Nat} {v:Value} (h:w.cell? ⟨b,j,none⟩=some v) (l:v.oneCell'=true):Ii w b j=some v:=by grind[World.cell?,Ii]
def see_map {w:World} {b:Nat} {B z:List Value} (h:Ii w b 0=some (wA B z)):∃eL l,w.heap[b]? =some (.map eL l)/\B=eL.toList.map (·.key)/\z=eL.toList.map (·.val):=by
 unfold Ii at h;split at h
 .obtain⟨u,H,h⟩:=dy.1 h;split at h
  .rename_i q;injection h with h;subst h;simp[wA,Value.oneCell'] at q
  .cases h
 .rename_i F l G;simp only[gV,bg,wA,Value.tuple.injEq] at h;have q:=aP Array.toList h;simp only[cR,Value.tuple.injEq,eH] at q;have e1:=aP Array.toList q.1;have D:=aP Array.toList q.2;exact⟨F,l,G,by simpa using e1.symm,by simpa using D.symm⟩
 .cases h
def WN {w:World} {b:Nat} {eL:Array MapEntry} {l:Nat} (h:w.heap[b]? =some (.map eL l)):Ii w b 0=some (wA (eL.toList.map (·.key)) (eL.toList.map (·.val))):=by unfold Ii;rw[h];simp
def sK {w:World} {b j:Nat} {v:Value} (h:Ii w b j=some v):b<w.heap.size:=by
 unfold Ii at h;split at h
 .rename_i c t q l;exact(mu.1 l).1
 .rename_i B z l;exact(mu.1 l).1
 .cases h
theorem jf {w l:World} {b:Nat} (h:l.heap[b]? =w.heap[b]?) (j:Nat):Ii l b j=Ii w b j:=by unfold Ii;rw[h]
mutual
def rep (μ:Mu):AV->Value->Prop
 | .bool b,v=>v= .bool b
 | .int k n,v=>v= .int k n
 | .str s,v=>v= .string ⟨s.toArray⟩
 | .dD sz xs,v=>∃A c,v= .slice A xs.length c/\xs.length<=c/\c<=maxLen/\(xs.length=0\/∃b off,A=some ⟨b,off,none⟩/\lE μ sz b xs off)
 | .agg cs,v=>∃vs:List Value,v= .agg vs.toArray/\cN μ cs vs/\∀u∈vs,u.oneCell'=true
 | .fn f caps,v=>∃vs:List Value,v= .func (.func f) #[] vs.toArray/\cN μ caps vs
 | .gU cs,v=>∃vs:List Value,v= .tuple vs.toArray/\cN μ cs vs
 | .ref cs,v=>∃(b off:Nat) (vs:List Value),v= .pointer (some ⟨b,off,none⟩)/\cN μ cs vs/\(∀u∈vs,u.oneCell'=true)/\∀j u,vs[j]? =some u->μ b (off+j)=some u
 | .self _,_=>False
 | .qh,v=>v= .pointer none
 | .tS,v=>v= .slice none 0 0
 | .hole,v=>v.oneCell'=true/\v.cells= #[v]
 | .mp ks es,v=>(v= .map none/\ks=[]/\es=[])\/∃(b:Nat) (kv ev:List Value),v= .map (some b)/\cN μ ks kv/\cN μ es ev/\μ b 0=some (wA kv ev)
def cN (μ:Mu):List AV->List Value->Prop
 |[],vs=>vs=[]
 |x::xs,vs=>∃u us,vs=u::us/\rep μ x u/\cN μ xs us
def lE (μ:Mu) (sz b:Nat):List (List AV)->Nat->Prop
 |[],_=>True
 |x::xs,off=>(∃vs:List Value,cN μ x vs/\(∀u∈vs,u.oneCell'=true)/\vs.length=sz/\∀j u,vs[j]? =some u->μ b (off+j)=some u)/\lE μ sz b xs (off+sz)
end
def lD (μ:Mu) (q:List AV) (l:List Value):Prop:=cN μ q l/\∀u∈l,u.oneCell'=true
def Mu.le (μ l:Mu):Prop:=∀b j v,μ b j=some v->l b j=some v
theorem Mu.le.refl (μ:Mu):μ.le μ:=λ_ _ _ h=>h
theorem Mu.le.trans {a b c:Mu} (h:a.le b) (k:b.le c):a.le c:=λx y v l=>k _ _ _ (h _ _ _ l)
mutual
theorem y5 {μ μ':Mu} (h:μ.le μ'):∀(x:AV) (v:Value),rep μ x v->rep μ' x v
 | .bool b,v=>λhv=>by simpa[rep] using hv
 | .int k n,v=>λhv=>by simpa[rep] using hv
 | .str s,v=>λhv=>by simpa[rep] using hv
 | .dD sz xs,v=>λhv=>by rw[rep] at hv⊢;obtain⟨A,c,e,h1,h2,h3⟩:=hv;exact⟨A,c,e,h1,h2,h3.imp id λ⟨b,off,ea,hr⟩=>⟨b,off,ea,Ib h sz b xs off hr⟩⟩
 | .agg cs,v=>λhv=>by rw[rep] at hv⊢;obtain⟨vs,e,h1,h2⟩:=hv;exact⟨vs,e,gy h cs vs h1,h2⟩
 | .fn f caps,v=>λhv=>by rw[rep] at hv⊢;obtain⟨vs,e,h1⟩:=hv;exact⟨vs,e,gy h caps vs h1⟩
 | .gU cs,v=>λhv=>by rw[rep] at hv⊢;obtain⟨vs,e,h1⟩:=hv;exact⟨vs,e,gy h cs vs h1⟩
 | .ref cs,v=>λhv=>by rw[rep] at hv⊢;obtain⟨b,off,vs,e,h1,h2,h3⟩:=hv;exact⟨b,off,vs,e,gy h cs vs h1,h2,λj u hu=>h _ _ _ (h3 j u hu)⟩
 | .self n,v=>λhv=>by rw[rep] at hv;exact hv.elim
 | .qh,v=>λhv=>by simpa[rep] using hv
 | .tS,v=>λhv=>by simpa[rep] using hv
 | .hole,v=>λhv=>by simpa[rep] using hv
 | .mp ks es,v=>λhv=>by
  rw[rep] at hv⊢;rcases hv with hv|⟨b,kv,ev,e,h1,h2,h3⟩
  .exact .inl hv
  .exact .inr ⟨b,kv,ev,e,gy h ks kv h1,gy h es ev h2,h _ _ _ h3⟩
theorem gy {μ μ':Mu} (h:μ.le μ'):∀(xs:List AV) (vs:List Value),cN μ xs vs->cN μ' xs vs
 |[],vs=>λhv=>by simpa[cN] using hv
 |x::xs,vs=>λhv=>by rw[cN] at hv⊢;obtain⟨u,us,e,h1,h2⟩:=hv;exact⟨u,us,e,y5 h x u h1,gy h xs us h2⟩
theorem Ib {μ μ':Mu} (h:μ.le μ') (sz b:Nat):∀(xs:List (List AV)) (off:Nat),lE μ sz b xs off->lE μ' sz b xs off
 |[],off=>λ_=>by simp[lE]
 |x::xs,off=>λhv=>by rw[lE] at hv⊢;obtain⟨⟨vs,h1,h2,h3,h4⟩,h5⟩:=hv;exact⟨⟨vs,gy h x vs h1,h2,h3,λj u hu=>h _ _ _ (h4 j u hu)⟩,Ib h sz b xs _ h5⟩
end
def lD.mono {μ l:Mu} (h:μ.le l) {q:List AV} {w:List Value} (k:lD μ q w):lD l q w:=⟨gy h _ _ k.1,k.2⟩
section
variable {μ:Mu}
theorem dR:cN μ [] []:=by simp[cN]
theorem cQ {x:AV} {xs:List AV} {v:Value} {l:List Value} (h:rep μ x v) (k:cN μ xs l):cN μ (x::xs) (v::l):=by rw[cN];exact⟨v,l,rfl,h,k⟩
theorem tE {xs:List AV} {l:List Value} (h:cN μ xs l):l.length=xs.length:=by induction xs generalizing l with
 |nil=>rw[cN] at h;subst h;rfl
 |cons x xs w=>rw[cN] at h;obtain⟨u,z,rfl,_,q⟩:=h;simp[w q]
def tu {xs:List AV} {q:List Value} (h:cN μ xs q) {i:Nat} {x:AV} (l:xs[i]? =some x):∃v,q[i]? =some v/\rep μ x v:=by induction xs generalizing q i with
 |nil=>simp at l
 |cons y xs F=>rw[cN] at h;obtain⟨u,G,rfl,w,z⟩:=h;cases i with
  |zero=>simp at l;subst l;exact⟨u,by simp,w⟩
  |succ i=>simp at l;obtain⟨v,D,B⟩:=F z l;exact⟨v,by simpa using D,B⟩
theorem oz {xs w:List AV} {l q:List Value} (h:cN μ xs l) (k:cN μ w q):cN μ (xs++w) (l++q):=by induction xs generalizing l with
 |nil=>rw[cN] at h;subst h;simpa using k
 |cons x xs D=>rw[cN] at h;obtain⟨u,F,rfl,z,B⟩:=h;exact cQ z (D B)
def T6 {xs:List AV} {l:List Value} (h:cN μ xs l) (n:Nat):cN μ (xs.drop n) (l.drop n):=by induction n generalizing xs l with
 |zero=>simpa using h
 |succ n w=>cases xs with
  |nil=>rw[cN] at h;subst h;simp[cN]
  |cons x xs=>rw[cN] at h;obtain⟨u,z,rfl,_,q⟩:=h;simpa using w q
def T8 {xs:List AV} {l:List Value} (h:cN μ xs l) (n:Nat):cN μ (xs.take n) (l.take n):=by induction n generalizing xs l with
 |zero=>simp[cN]
 |succ n z=>cases xs with
  |nil=>rw[cN] at h;subst h;simp[cN]
  |cons x xs=>rw[cN] at h;obtain⟨u,B,rfl,q,w⟩:=h;simpa using cQ q (z w)
theorem lD.drop {l:List AV} {q:List Value} (h:lD μ l q) (n:Nat):lD μ (l.drop n) (q.drop n):=
 ⟨T6 h.1 n,λu w=>h.2 u (iY w)⟩
theorem lD.take {l:List AV} {q:List Value} (h:lD μ l q) (n:Nat):lD μ (l.take n) (q.take n):=
 ⟨T8 h.1 n,λu w=>h.2 u (vO w)⟩
def lD.append {l q:List AV} {z w:List Value} (h:lD μ l z) (k:lD μ q w):lD μ (l++q) (z++w):=
 ⟨oz h.1 k.1,λu B=>(bu.1 B).elim (h.2 u) (k.2 u)⟩
def lD.length {l:List AV} {q:List Value} (h:lD μ l q):q.length=l.length:=tE h.1
def NV {x:AV} {v:Value} (h:rep μ x v) (F:∀q,x≠ .gU q):lD μ x.cells v.cells.toList:=by cases x with
 |agg z=>rw[rep] at h;obtain⟨q,rfl,B,D⟩:=h;exact⟨by simpa[AV.cells,Value.cells] using B,by simpa[Value.cells] using D⟩
 |gU q=>exact absurd rfl (F q)
 |dD N xs=>have l:=h;rw[rep] at l;obtain⟨A,c,rfl,_⟩:=l;exact⟨cQ h dR,by simp[Value.cells,Value.oneCell']⟩
 |fn f w=>have l:=h;rw[rep] at l;obtain⟨q,rfl,_⟩:=l;exact⟨cQ h dR,by simp[Value.cells,Value.oneCell']⟩
 |ref z=>have l:=h;rw[rep] at l;obtain⟨b,G,q,rfl,_⟩:=l;exact⟨cQ h dR,by simp[Value.cells,Value.oneCell']⟩
 |self n=>rw[rep] at h;exact h.elim
 |qh=>have l:=h;rw[rep] at l;subst l;exact⟨cQ h dR,by simp[Value.cells,Value.oneCell']⟩
 |tS=>have l:=h;rw[rep] at l;subst l;exact⟨cQ h dR,by simp[Value.cells,Value.oneCell']⟩
 |hole=>have l:=h;rw[rep] at l;rw[l.2];exact⟨cQ h dR,by simp[l.1]⟩
 |mp K H=>
  have l:=h;rw[rep] at l;rcases l with⟨rfl,_⟩|⟨b,L,I,rfl,_⟩
  .exact⟨cQ h dR,by simp[Value.cells,Value.oneCell']⟩
  .exact⟨cQ h dR,by simp[Value.cells,Value.oneCell']⟩
 |bool b=>have l:=h;rw[rep] at l;subst l;exact⟨cQ h dR,by simp[Value.cells,Value.oneCell']⟩
 |int k n=>have l:=h;rw[rep] at l;subst l;exact⟨cQ h dR,by simp[Value.cells,Value.oneCell']⟩
 |str s=>have l:=h;rw[rep] at l;subst l;exact⟨cQ h dR,by simp[Value.cells,Value.oneCell']⟩
def WG {q b:Nat} {xs:List (List AV)} {l:Nat} (h:lE μ q b xs l) {i:Nat} {x:List AV} (w:xs[i]? =some x):
  ∃z:List Value,lD μ x z/\z.length=q/\∀j u,z[j]? =some u->μ b (l+(i *q)+j)=some u:=by
 induction xs generalizing l i with
 |nil=>simp at w
 |cons y xs L=>rw[lE] at h;obtain⟨⟨z,D,F,G,H⟩,I⟩:=h;cases i with
  |zero=>simp at w;subst w;exact⟨z,⟨D,F⟩,G,by simpa using H⟩
  |succ i=>simp at w;obtain⟨B,N,O,P⟩:=L I w;refine⟨B,N,O,λj u K=> ?_⟩;have:=P j u K;rwa[show l+q+i *q+j=l+(i+1) *q+j from by rw[jQ];omega] at this
def T9 {q b:Nat} {xs:List (List AV)} {l:Nat} (h:lE μ q b xs l) (n:Nat) (w:n<=xs.length):lE μ q b (xs.drop n) (l+n *q):=by induction n generalizing xs l with
 |zero=>simpa using h
 |succ n z=>cases xs with
  |nil=>simp at w
  |cons x xs=>rw[lE] at h;have:=z h.2 (by simpa using w);rw[Hl];rwa[show l+(n+1) *q=l+q+n *q from by rw[jQ];omega]
def Ua {q b:Nat} {xs:List (List AV)} {l:Nat} (h:lE μ q b xs l) (n:Nat):lE μ q b (xs.take n) l:=by induction n generalizing xs l with
 |zero=>simp[lE]
 |succ n w=>cases xs with
  |nil=>simp[lE]
  |cons x xs=>rw[Ho];rw[lE] at h⊢;exact⟨h.1,w h.2⟩
end
def fW:Value->Value
 | .tuple l=>l.getD 0 undef
 |v=>v
def P6 (μ:Mu) (l:Nat->Value):oF->Value->Prop
 | .v a,u=>rep μ a u
 | .p id,u=>∃b,l id= .pointer (some ⟨b,0,none⟩)/\u= .pointer (some ⟨b,0,none⟩)
 | .r id,u=>u=fW (l id)
def kH (μ:Mu) (l:Nat->Value):List oF->List Value->Prop
 |[],q=>q=[]
 |c::z,q=>∃u w,q=u::w/\P6 μ l c u/\kH μ l z w
def clV (g:Nat) (l:List Value):Value:=
 bif Nat.blt g 1000000 then .func (.func g) #[] l.toArray
 else bif Nat.blt g 2000000 then .func (.func (g-1000000)) l.toArray #[]
 else match l with
  |[.pointer (some a)]=> .func (.yield a.block) #[] #[]
  |_=> .func (.func 0) #[] #[]
def Cg:Ak->Value->Value->Prop
 | .bs n,v,u=>∃b,v= .pointer (some ⟨b,0,none⟩)/\u= .slice (some ⟨b,0,none⟩) n n
 | .full,v,u=>∃A n c,v= .slice A n c/\u= .slice A n n
 | .nr i,v,u=>∃(m:Value) (l:List Value),v= .tuple (m::l).toArray/\(∃A n c,m= .slice A n c)/\∀x,l[i]? =some x->x=undef\/x=u
def fQ (μ:Mu) (l:Nat->Value):SV->Value->Prop
 | .undef,u=>u=undef
 | .any,_=>True
 | .pv v,u=>rep μ v u
 | .ptr id w,u=>∃b,l id= .pointer (some ⟨b,0,none⟩)/\u= .pointer (some ⟨b,w,none⟩)
 | .row id,u=>u=fW (l id)
 | .rp id I i w,u=>∃g n c,fW (l id)= .slice (some ⟨g,0,none⟩) n c/\u= .pointer (some ⟨g,i *I+w,none⟩)
 | .sub id I F G,u=>∃A n c H c',l id= .slice A n c/\F<=G/\G<=n/\G-F<=c'/\u= .slice H (G-F) c'/\(F=0->H=A/\c'=c)/\(F<G->∃g,A=some ⟨g,0,none⟩/\H=some ⟨g,F *I,none⟩)
 | .cp K,u=>∃b w D,u= .pointer (some ⟨b,w,none⟩)/\lD μ K D/\∀j v,D[j]? =some v->μ b (w+j)=some v
 | .cl f B,u=>∃D:List Value,u=clV f D/\kH μ l B D
 | .two s t,u=>∃x y,u= .tuple #[x,y]/\fQ μ l s x/\fQ μ l t y
 | .three s t r,u=>∃x y z,u= .tuple #[x,y,z]/\fQ μ l s x/\fQ μ l t y/\fQ μ l r z
 | .ag B,u=>∃D:List Value,u= .agg D.toArray/\kH μ l B D/\∀x∈D,x.oneCell'=true
 | .aq id q,u=>Cg q (l id) u
def gT (μ:Mu) (l:Nat->Value):List SV->List Value->Prop
 |[],q=>q=[]
 |x::xs,q=>∃u w,q=u::w/\fQ μ l x u/\gT μ l xs w
def cV (μ:Mu) (w:Nat):List (List AV)->List Value->Prop
 |[],q=>q=[]
 |x::xs,q=>∃l ws,q=l++ws/\lD μ x l/\l.length=w/\cV μ w xs ws
def cu:Value->Option Nat
 | .pointer (some a)=>some a.block
 | .slice (some a) _ _=>some a.block
 | .map (some b)=>some b
 |_=>none
def mE (v:Value) (b:Nat):Prop:=cu v=some b\/∃l:List Value,v= .tuple l.toArray/\∃u∈l,cu u=some b
structure Qp where
 p:Prop
 lp:List AV->Mu->World->List Value->Prop:=λ_ _ _ _=>False
 mono:∀{xs:List AV} {μ μ':Mu} {w:World} {us:List Value},μ.le μ'->lp xs μ w us->lp xs μ' w us:=by exact λ_ h=>h
 keep:∀{xs:List AV} {μ:Mu} {w w':World} {us:List Value},(∀b,(∃u∈us,cu u=some b)->w'.heap[b]? =w.heap[b]?)->lp xs μ w us->lp xs μ w' us:=by exact λ_ h=>h.elim
instance:CoeSort Qp Prop:=⟨Qp.p⟩
instance:Coe Prop Qp:=⟨λp=>{ p:=p,mono:=λ_ h=>h,keep:=λ_ h=>h.elim }⟩
structure s7 where
 f:Nat->Option Value
 q:Qp
instance:CoeFun s7 (λ_=>Nat->Option Value):=⟨s7.f⟩
def NA (L:s7) (b:Nat):Prop:=∃id v,L id=some v/\mE v b
def ZE (L:s7) (b:Nat):Prop:=∃id v,9000<=id/\id<10000/\L id=some v/\mE v b
def IK (l:Nat) (L:s7) (id b:Nat):Prop:=l<=b\/ZE L b\/∃v,L id=some v/\mE v b
def Born (eL:Array MapEntry) (l:Nat):Prop:=(∀x∈eL.toList,x.born<l)/\(eL.toList.map (·.born)).Nodup
def nU (G:Nat) (L:s7) (μ:Mu) (l:Nat->Value) (w:World) (id:Nat):Ob->Prop
 | .box t cells=>∃(b:Nat) (D:List Value),l id= .pointer (some ⟨b,0,none⟩)/\IK G L id b/\w.heap[b]? =some (.cells D.toArray t (0,0))/\(∀j,μ b j=none)/\gT μ l cells D/\∀u∈D,u.oneCell'=true
 | .row e F xs=>∃D:List Value,w.ownsRow 0 e F (l id) xs.length D/\cV μ F xs D/\∀g,mE (l id) g->IK G L id g/\∀j,μ g j=none
 | .mp k e O N=>∃(b:Nat) (eL:Array MapEntry) (z:Nat),l id= .map (some b)/\IK G L id b/\w.heap[b]? =some (.map eL z)/\(∀j,μ b j=none)/\cN μ O (eL.toList.map (·.key))/\cN μ N (eL.toList.map (·.val))/\Born eL z
 | .rn e F k K H xs I=>∃(m:Value) (B D:List Value),l id= .tuple (m::B).toArray/\(∀q,cu m=some q->IK G L id q/\∀j,μ q j=none)/\w.ownsRow 0 e F m xs.length D/\cV μ F xs D/\(k<F/\∀c∈xs,c[k]? =some AV.hole)/\
   B.length=I.length/\xs.length=I.length/\
   (∀(i:Nat) zs,I[i]? =some (some zs)->∃(u:Value) (cells:List Value),B[i]? =some u/\D[i *F+k]? =some u/\w.ownsRow 0 K H u zs.length cells/\cV μ H zs cells/\∀g,cu u=some g->IK G L id g/\∀j,μ g j=none)/\
   (∀i:Nat,I[i]? =some none->B[i]? =some undef)/\
   (∀u∈B,∀g,cu u=some g->cu m≠some g)/\
   (∀(i j:Nat) (u v:Value),B[i]? =some u->B[j]? =some v->i≠j->∀g,cu u=some g->cu v≠some g)
 | .lp xs=>∃B:List Value,l id= .tuple B.toArray/\(∀g,mE (l id) g->IK G L id g/\g<w.heap.size/\∀j,μ g j=none)/\L.q.lp xs μ w B
def Mu.ext (n:Nat) (μ l:Mu):Prop:=μ.le l/\∀b j v,l b j=some v->μ b j=some v\/n<=b
def Mu.extL (n:Nat) (L:s7) (μ l:Mu):Prop:=μ.le l/\∀b j v,l b j=some v->μ b j=some v\/n<=b\/ZE L b
def Mu.ext.toL {n:Nat} {L:s7} {μ l:Mu} (h:μ.ext n l):μ.extL n L l:=⟨h.1,λb j v q=>(h.2 b j v q).imp (λh=>h) .inl⟩
structure Rel (N:Nat) (w0:World) (μ0:Mu) (L:s7) (μ:Mu) (loc:Nat->Value) (st:St) (a:Act) (w:World):Prop where
 small:N<=10000
 names:∀id,id<9000->L id=none
 fix:∀id v,L id=some v->10000<=id->id<20000->loc id=v
 size:a.tmps.size=N
 defers:a.defers=[]
 env:∀i sv,st.env i=some sv->∃v,a.tmps[i]? =some v/\fQ μ loc sv v
 yz:∀b j v,μ b j=some v->Ii w b j=some v
 base:μ0.extL w0.heap.size L μ
 obs:∀id o,st.ob id=some o->nU w0.heap.size L μ loc w id o
 apart:∀i j oi oj,st.ob i=some oi->st.ob j=some oj->i≠j->∀g,mE (loc i) g->¬mE (loc j) g
 keep:∀b,b<w0.heap.size->¬NA L b->w.heap[b]? =w0.heap[b]?
 os:w.os=w0.os
 tape:w.tape=w0.tape
 output:w.output=w0.output
 grown:w0.heap.size<=w.heap.size
 drawn:L.q->w0.drawn<=w.drawn
def Rel.D9 {N:Nat} {B:World} {D:Mu} {L:s7} {μ:Mu} {z:Nat->Value} {H:St} {a:Act} {w:World} (F:Rel N B D L μ z H a w) {id b:Nat} (l:id<10000) (h:IK B.heap.size L id b):B.heap.size<=b\/ZE L b:=by
 rcases h with h|h|⟨v,q,h⟩
 .exact .inl h
 .exact .inr h
 .by_cases G:id<9000
  .rw[F.names id G] at q;cases q
  .exact .inr ⟨id,v,by omega,l,q,h⟩
theorem ZE.cG {L:s7} {b:Nat} (h:ZE L b):NA L b:=by obtain⟨id,v,_,_,h⟩:=h;exact⟨id,v,h⟩
