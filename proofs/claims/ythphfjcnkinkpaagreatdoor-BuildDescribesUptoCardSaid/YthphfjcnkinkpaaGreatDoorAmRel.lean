/- THE ABSTRACT MACHINE. -/
import Derived.Test.YthphfjcnkinkpaaGreatDoorAmDefs
set_option linter.all false
namespace Go.AM
abbrev Mu:=Nat->Nat->Option Value
def wh (l q:List Value):Value:= .tuple #[.tuple l.toArray, .tuple q.toArray]
def HF (w:World) (b j:Nat):Option Value:=
 match w.heap[b]? with
 |some (.cells c _ _)=>(c[j]?).bind λv=>if v.oneCell'=true then some v else none
 |some (.map l _)=>if j=0 then some (wh (l.toList.map (·.key)) (l.toList.map (·.val))) else none
 |_=>none
def yK {w:World} {b j:Nat} {v:Value} (h:HF w b j=some v) (l:v.oneCell'=true):w.cell? ⟨b,j,none⟩=some v:=by grind[HF,World.cell?,wh,Value.oneCell']
def xz {w:World} {b j:Nat} {v:Value} (h:w.cell? ⟨b,j,none⟩=some v) (l:v.oneCell'=true):HF w b j=some v:=by grind[World.cell?,HF]
def see_map {w:World} {b:Nat} {B z:List Value} (h:HF w b 0=some (wh B z)):∃eS l,w.heap[b]? =some (.map eS l)/\B=eS.toList.map (·.key)/\z=eS.toList.map (·.val):=by
 unfold HF at h;split at h
 .obtain⟨u,H,h⟩:=dA.1 h;split at h
  .rename_i q;injection h with h;subst h;simp[wh,Value.oneCell'] at q
  .cases h
 .rename_i F l G;simp only[ia,bq,wh,Value.tuple.injEq] at h;have q:=aU Array.toList h;simp only[cV,Value.tuple.injEq,eP] at q;have e1:=aU Array.toList q.1;have D:=aU Array.toList q.2;exact⟨F,l,G,by simpa using e1.symm,by simpa using D.symm⟩
 .cases h
def WJ {w:World} {b:Nat} {eS:Array MapEntry} {l:Nat} (h:w.heap[b]? =some (.map eS l)):HF w b 0=some (wh (eS.toList.map (·.key)) (eS.toList.map (·.val))):=by unfold HF;rw[h];simp
def sO {w:World} {b j:Nat} {v:Value} (h:HF w b j=some v):b<w.heap.size:=by
 unfold HF at h;split at h
 .rename_i c t q l;exact(mE.1 l).1
 .rename_i B z l;exact(mE.1 l).1
 .cases h
theorem ji {w l:World} {b:Nat} (h:l.heap[b]? =w.heap[b]?) (j:Nat):HF l b j=HF w b j:=by unfold HF;rw[h]
mutual
def rep (μ:Mu):AV->Value->Prop
 | .bool b,v=>v= .bool b
 | .int k n,v=>v= .int k n
 | .str s,v=>v= .string ⟨s.toArray⟩
 | .dG sz xs,v=>∃A c,v= .slice A xs.length c/\xs.length<=c/\c<=maxLen/\(xs.length=0\/∃b off,A=some ⟨b,off,none⟩/\lH μ sz b xs off)
 | .agg cs,v=>∃vs:List Value,v= .agg vs.toArray/\cS μ cs vs/\∀u∈vs,u.oneCell'=true
 | .fn f caps,v=>∃vs:List Value,v= .func (.func f) #[] vs.toArray/\cS μ caps vs
 | .gX cs,v=>∃vs:List Value,v= .tuple vs.toArray/\cS μ cs vs
 | .ref cs,v=>∃(b off:Nat) (vs:List Value),v= .pointer (some ⟨b,off,none⟩)/\cS μ cs vs/\(∀u∈vs,u.oneCell'=true)/\∀j u,vs[j]? =some u->μ b (off+j)=some u
 | .self _,_=>False
 | .pG,v=>v= .pointer none
 | .tU,v=>v= .slice none 0 0
 | .hole,v=>v.oneCell'=true/\v.cells= #[v]
 | .mp ks es,v=>(v= .map none/\ks=[]/\es=[])\/∃(b:Nat) (kv ev:List Value),v= .map (some b)/\cS μ ks kv/\cS μ es ev/\μ b 0=some (wh kv ev)
def cS (μ:Mu):List AV->List Value->Prop
 |[],vs=>vs=[]
 |x::xs,vs=>∃u us,vs=u::us/\rep μ x u/\cS μ xs us
def lH (μ:Mu) (sz b:Nat):List (List AV)->Nat->Prop
 |[],_=>True
 |x::xs,off=>(∃vs:List Value,cS μ x vs/\(∀u∈vs,u.oneCell'=true)/\vs.length=sz/\∀j u,vs[j]? =some u->μ b (off+j)=some u)/\lH μ sz b xs (off+sz)
end
def lF (μ:Mu) (q:List AV) (l:List Value):Prop:=cS μ q l/\∀u∈l,u.oneCell'=true
def Mu.le (μ l:Mu):Prop:=∀b j v,μ b j=some v->l b j=some v
theorem Mu.le.refl (μ:Mu):μ.le μ:=λ_ _ _ h=>h
theorem Mu.le.trans {a b c:Mu} (h:a.le b) (k:b.le c):a.le c:=λx y v l=>k _ _ _ (h _ _ _ l)
mutual
theorem yG {μ μ':Mu} (h:μ.le μ'):∀(x:AV) (v:Value),rep μ x v->rep μ' x v
 | .bool b,v=>λhv=>by simpa[rep] using hv
 | .int k n,v=>λhv=>by simpa[rep] using hv
 | .str s,v=>λhv=>by simpa[rep] using hv
 | .dG sz xs,v=>λhv=>by rw[rep] at hv⊢;obtain⟨A,c,e,h1,h2,h3⟩:=hv;exact⟨A,c,e,h1,h2,h3.imp id λ⟨b,off,ea,hr⟩=>⟨b,off,ea,HB h sz b xs off hr⟩⟩
 | .agg cs,v=>λhv=>by rw[rep] at hv⊢;obtain⟨vs,e,h1,h2⟩:=hv;exact⟨vs,e,gF h cs vs h1,h2⟩
 | .fn f caps,v=>λhv=>by rw[rep] at hv⊢;obtain⟨vs,e,h1⟩:=hv;exact⟨vs,e,gF h caps vs h1⟩
 | .gX cs,v=>λhv=>by rw[rep] at hv⊢;obtain⟨vs,e,h1⟩:=hv;exact⟨vs,e,gF h cs vs h1⟩
 | .ref cs,v=>λhv=>by rw[rep] at hv⊢;obtain⟨b,off,vs,e,h1,h2,h3⟩:=hv;exact⟨b,off,vs,e,gF h cs vs h1,h2,λj u hu=>h _ _ _ (h3 j u hu)⟩
 | .self n,v=>λhv=>by rw[rep] at hv;exact hv.elim
 | .pG,v=>λhv=>by simpa[rep] using hv
 | .tU,v=>λhv=>by simpa[rep] using hv
 | .hole,v=>λhv=>by simpa[rep] using hv
 | .mp ks es,v=>λhv=>by
  rw[rep] at hv⊢;rcases hv with hv|⟨b,kv,ev,e,h1,h2,h3⟩
  .exact .inl hv
  .exact .inr ⟨b,kv,ev,e,gF h ks kv h1,gF h es ev h2,h _ _ _ h3⟩
theorem gF {μ μ':Mu} (h:μ.le μ'):∀(xs:List AV) (vs:List Value),cS μ xs vs->cS μ' xs vs
 |[],vs=>λhv=>by simpa[cS] using hv
 |x::xs,vs=>λhv=>by rw[cS] at hv⊢;obtain⟨u,us,e,h1,h2⟩:=hv;exact⟨u,us,e,yG h x u h1,gF h xs us h2⟩
theorem HB {μ μ':Mu} (h:μ.le μ') (sz b:Nat):∀(xs:List (List AV)) (off:Nat),lH μ sz b xs off->lH μ' sz b xs off
 |[],off=>λ_=>by simp[lH]
 |x::xs,off=>λhv=>by rw[lH] at hv⊢;obtain⟨⟨vs,h1,h2,h3,h4⟩,h5⟩:=hv;exact⟨⟨vs,gF h x vs h1,h2,h3,λj u hu=>h _ _ _ (h4 j u hu)⟩,HB h sz b xs _ h5⟩
end
def lF.mono {μ l:Mu} (h:μ.le l) {q:List AV} {w:List Value} (k:lF μ q w):lF l q w:=⟨gF h _ _ k.1,k.2⟩
section
variable {μ:Mu}
theorem dY:cS μ [] []:=by simp[cS]
theorem cT {x:AV} {xs:List AV} {v:Value} {l:List Value} (h:rep μ x v) (k:cS μ xs l):cS μ (x::xs) (v::l):=by rw[cS];exact⟨v,l,rfl,h,k⟩
theorem tI {xs:List AV} {l:List Value} (h:cS μ xs l):l.length=xs.length:=by induction xs generalizing l with
 |nil=>rw[cS] at h;subst h;rfl
 |cons x xs w=>rw[cS] at h;obtain⟨u,z,rfl,_,q⟩:=h;simp[w q]
def tB {xs:List AV} {q:List Value} (h:cS μ xs q) {i:Nat} {x:AV} (l:xs[i]? =some x):∃v,q[i]? =some v/\rep μ x v:=by induction xs generalizing q i with
 |nil=>simp at l
 |cons y xs F=>rw[cS] at h;obtain⟨u,G,rfl,w,z⟩:=h;cases i with
  |zero=>simp at l;subst l;exact⟨u,by simp,w⟩
  |succ i=>simp at l;obtain⟨v,D,B⟩:=F z l;exact⟨v,by simpa using D,B⟩
theorem oC {xs w:List AV} {l q:List Value} (h:cS μ xs l) (k:cS μ w q):cS μ (xs++w) (l++q):=by induction xs generalizing l with
 |nil=>rw[cS] at h;subst h;simpa using k
 |cons x xs D=>rw[cS] at h;obtain⟨u,F,rfl,z,B⟩:=h;exact cT z (D B)
theorem TU {xs:List AV} {l:List Value} (h:cS μ xs l) (n:Nat):cS μ (xs.drop n) (l.drop n):=by induction n generalizing xs l with
 |zero=>simpa using h
 |succ n w=>cases xs with
  |nil=>rw[cS] at h;subst h;simp[cS]
  |cons x xs=>rw[cS] at h;obtain⟨u,z,rfl,_,q⟩:=h;simpa using w q
def TW {xs:List AV} {l:List Value} (h:cS μ xs l) (n:Nat):cS μ (xs.take n) (l.take n):=by induction n generalizing xs l with
 |zero=>simp[cS]
 |succ n z=>cases xs with
  |nil=>rw[cS] at h;subst h;simp[cS]
  |cons x xs=>rw[cS] at h;obtain⟨u,B,rfl,q,w⟩:=h;simpa using cT q (z w)
theorem lF.drop {l:List AV} {q:List Value} (h:lF μ l q) (n:Nat):lF μ (l.drop n) (q.drop n):=
 ⟨TU h.1 n,λu w=>h.2 u (je w)⟩
theorem lF.take {l:List AV} {q:List Value} (h:lF μ l q) (n:Nat):lF μ (l.take n) (q.take n):=
 ⟨TW h.1 n,λu w=>h.2 u (s9 w)⟩
def lF.append {l q:List AV} {z w:List Value} (h:lF μ l z) (k:lF μ q w):lF μ (l++q) (z++w):=
 ⟨oC h.1 k.1,λu B=>(bu.1 B).elim (h.2 u) (k.2 u)⟩
def lF.length {l:List AV} {q:List Value} (h:lF μ l q):q.length=l.length:=tI h.1
def Nw {x:AV} {v:Value} (h:rep μ x v) (F:∀q,x≠ .gX q):lF μ x.cells v.cells.toList:=by cases x with
 |agg z=>rw[rep] at h;obtain⟨q,rfl,B,D⟩:=h;exact⟨by simpa[AV.cells,Value.cells] using B,by simpa[Value.cells] using D⟩
 |gX q=>exact absurd rfl (F q)
 |dG N xs=>have l:=h;rw[rep] at l;obtain⟨A,c,rfl,_⟩:=l;exact⟨cT h dY,by simp[Value.cells,Value.oneCell']⟩
 |fn f w=>have l:=h;rw[rep] at l;obtain⟨q,rfl,_⟩:=l;exact⟨cT h dY,by simp[Value.cells,Value.oneCell']⟩
 |ref z=>have l:=h;rw[rep] at l;obtain⟨b,G,q,rfl,_⟩:=l;exact⟨cT h dY,by simp[Value.cells,Value.oneCell']⟩
 |self n=>rw[rep] at h;exact h.elim
 |pG=>have l:=h;rw[rep] at l;subst l;exact⟨cT h dY,by simp[Value.cells,Value.oneCell']⟩
 |tU=>have l:=h;rw[rep] at l;subst l;exact⟨cT h dY,by simp[Value.cells,Value.oneCell']⟩
 |hole=>have l:=h;rw[rep] at l;rw[l.2];exact⟨cT h dY,by simp[l.1]⟩
 |mp K H=>
  have l:=h;rw[rep] at l;rcases l with⟨rfl,_⟩|⟨b,L,I,rfl,_⟩
  .exact⟨cT h dY,by simp[Value.cells,Value.oneCell']⟩
  .exact⟨cT h dY,by simp[Value.cells,Value.oneCell']⟩
 |bool b=>have l:=h;rw[rep] at l;subst l;exact⟨cT h dY,by simp[Value.cells,Value.oneCell']⟩
 |int k n=>have l:=h;rw[rep] at l;subst l;exact⟨cT h dY,by simp[Value.cells,Value.oneCell']⟩
 |str s=>have l:=h;rw[rep] at l;subst l;exact⟨cT h dY,by simp[Value.cells,Value.oneCell']⟩
def WB {q b:Nat} {xs:List (List AV)} {l:Nat} (h:lH μ q b xs l) {i:Nat} {x:List AV} (w:xs[i]? =some x):
  ∃z:List Value,lF μ x z/\z.length=q/\∀j u,z[j]? =some u->μ b (l+(i *q)+j)=some u:=by
 induction xs generalizing l i with
 |nil=>simp at w
 |cons y xs L=>rw[lH] at h;obtain⟨⟨z,D,F,G,H⟩,I⟩:=h;cases i with
  |zero=>simp at w;subst w;exact⟨z,⟨D,F⟩,G,by simpa using H⟩
  |succ i=>simp at w;obtain⟨B,N,O,P⟩:=L I w;refine⟨B,N,O,λj u K=> ?_⟩;have:=P j u K;rwa[show l+q+i *q+j=l+(i+1) *q+j from by rw[jR];omega] at this
def TX {q b:Nat} {xs:List (List AV)} {l:Nat} (h:lH μ q b xs l) (n:Nat) (w:n<=xs.length):lH μ q b (xs.drop n) (l+n *q):=by induction n generalizing xs l with
 |zero=>simpa using h
 |succ n z=>cases xs with
  |nil=>simp at w
  |cons x xs=>rw[lH] at h;have:=z h.2 (by simpa using w);rw[GN];rwa[show l+(n+1) *q=l+q+n *q from by rw[jR];omega]
def TY {q b:Nat} {xs:List (List AV)} {l:Nat} (h:lH μ q b xs l) (n:Nat):lH μ q b (xs.take n) l:=by induction n generalizing xs l with
 |zero=>simp[lH]
 |succ n w=>cases xs with
  |nil=>simp[lH]
  |cons x xs=>rw[GQ];rw[lH] at h⊢;exact⟨h.1,w h.2⟩
end
def gp:Value->Value
 | .tuple l=>l.getD 0 undef
 |v=>v
def PN (μ:Mu) (l:Nat->Value):oJ->Value->Prop
 | .v a,u=>rep μ a u
 | .p id,u=>∃b,l id= .pointer (some ⟨b,0,none⟩)/\u= .pointer (some ⟨b,0,none⟩)
 | .r id,u=>u=gp (l id)
def kK (μ:Mu) (l:Nat->Value):List oJ->List Value->Prop
 |[],q=>q=[]
 |c::z,q=>∃u w,q=u::w/\PN μ l c u/\kK μ l z w
def clV (g:Nat) (l:List Value):Value:=
 bif Nat.blt g 1000000 then .func (.func g) #[] l.toArray
 else bif Nat.blt g 2000000 then .func (.func (g-1000000)) l.toArray #[]
 else match l with
  |[.pointer (some a)]=> .func (.yield a.block) #[] #[]
  |_=> .func (.func 0) #[] #[]
def BV:Ak->Value->Value->Prop
 | .bs n,v,u=>∃b,v= .pointer (some ⟨b,0,none⟩)/\u= .slice (some ⟨b,0,none⟩) n n
 | .full,v,u=>∃A n c,v= .slice A n c/\u= .slice A n n
 | .nr i,v,u=>∃(m:Value) (l:List Value),v= .tuple (m::l).toArray/\(∃A n c,m= .slice A n c)/\∀x,l[i]? =some x->x=undef\/x=u
def fW (μ:Mu) (l:Nat->Value):SV->Value->Prop
 | .undef,u=>u=undef
 | .any,_=>True
 | .pv v,u=>rep μ v u
 | .ptr id w,u=>∃b,l id= .pointer (some ⟨b,0,none⟩)/\u= .pointer (some ⟨b,w,none⟩)
 | .row id,u=>u=gp (l id)
 | .rp id I i w,u=>∃g n c,gp (l id)= .slice (some ⟨g,0,none⟩) n c/\u= .pointer (some ⟨g,i *I+w,none⟩)
 | .sub id I F G,u=>∃A n c H c',l id= .slice A n c/\F<=G/\G<=n/\G-F<=c'/\u= .slice H (G-F) c'/\(F=0->H=A/\c'=c)/\(F<G->∃g,A=some ⟨g,0,none⟩/\H=some ⟨g,F *I,none⟩)
 | .cp K,u=>∃b w D,u= .pointer (some ⟨b,w,none⟩)/\lF μ K D/\∀j v,D[j]? =some v->μ b (w+j)=some v
 | .cl f B,u=>∃D:List Value,u=clV f D/\kK μ l B D
 | .two s t,u=>∃x y,u= .tuple #[x,y]/\fW μ l s x/\fW μ l t y
 | .three s t r,u=>∃x y z,u= .tuple #[x,y,z]/\fW μ l s x/\fW μ l t y/\fW μ l r z
 | .ag B,u=>∃D:List Value,u= .agg D.toArray/\kK μ l B D/\∀x∈D,x.oneCell'=true
 | .aq id q,u=>BV q (l id) u
def gY (μ:Mu) (l:Nat->Value):List SV->List Value->Prop
 |[],q=>q=[]
 |x::xs,q=>∃u w,q=u::w/\fW μ l x u/\gY μ l xs w
def dc (μ:Mu) (w:Nat):List (List AV)->List Value->Prop
 |[],q=>q=[]
 |x::xs,q=>∃l ws,q=l++ws/\lF μ x l/\l.length=w/\dc μ w xs ws
def cu:Value->Option Nat
 | .pointer (some a)=>some a.block
 | .slice (some a) _ _=>some a.block
 | .map (some b)=>some b
 |_=>none
def mG (v:Value) (b:Nat):Prop:=cu v=some b\/∃l:List Value,v= .tuple l.toArray/\∃u∈l,cu u=some b
structure Qp where
 p:Prop
 lp:List AV->Mu->World->List Value->Prop:=λ_ _ _ _=>False
 mono:∀{xs:List AV} {μ μ':Mu} {w:World} {us:List Value},μ.le μ'->lp xs μ w us->lp xs μ' w us:=by exact λ_ h=>h
 keep:∀{xs:List AV} {μ:Mu} {w w':World} {us:List Value},(∀b,(∃u∈us,cu u=some b)->w'.heap[b]? =w.heap[b]?)->lp xs μ w us->lp xs μ w' us:=by exact λ_ h=>h.elim
instance:CoeSort Qp Prop:=⟨Qp.p⟩
instance:Coe Prop Qp:=⟨λp=>{ p:=p,mono:=λ_ h=>h,keep:=λ_ h=>h.elim }⟩
structure s8 where
 f:Nat->Option Value
 q:Qp
instance:CoeFun s8 (λ_=>Nat->Option Value):=⟨s8.f⟩
def Nb (L:s8) (b:Nat):Prop:=∃id v,L id=some v/\mG v b
def Zt (L:s8) (b:Nat):Prop:=∃id v,9000<=id/\id<10000/\L id=some v/\mG v b
def Ib (l:Nat) (L:s8) (id b:Nat):Prop:=l<=b\/Zt L b\/∃v,L id=some v/\mG v b
def Born (eS:Array MapEntry) (l:Nat):Prop:=(∀x∈eS.toList,x.born<l)/\(eS.toList.map (·.born)).Nodup
def nY (G:Nat) (L:s8) (μ:Mu) (l:Nat->Value) (w:World) (id:Nat):Ob->Prop
 | .box t cells=>∃(b:Nat) (D:List Value),l id= .pointer (some ⟨b,0,none⟩)/\Ib G L id b/\w.heap[b]? =some (.cells D.toArray t (0,0))/\(∀j,μ b j=none)/\gY μ l cells D/\∀u∈D,u.oneCell'=true
 | .row e F xs=>∃D:List Value,w.ownsRow 0 e F (l id) xs.length D/\dc μ F xs D/\∀g,mG (l id) g->Ib G L id g/\∀j,μ g j=none
 | .mp k e O N=>∃(b:Nat) (eS:Array MapEntry) (z:Nat),l id= .map (some b)/\Ib G L id b/\w.heap[b]? =some (.map eS z)/\(∀j,μ b j=none)/\cS μ O (eS.toList.map (·.key))/\cS μ N (eS.toList.map (·.val))/\Born eS z
 | .rn e F k K H xs I=>∃(m:Value) (B D:List Value),l id= .tuple (m::B).toArray/\(∀q,cu m=some q->Ib G L id q/\∀j,μ q j=none)/\w.ownsRow 0 e F m xs.length D/\dc μ F xs D/\(k<F/\∀c∈xs,c[k]? =some AV.hole)/\
   B.length=I.length/\xs.length=I.length/\
   (∀(i:Nat) zs,I[i]? =some (some zs)->∃(u:Value) (cells:List Value),B[i]? =some u/\D[i *F+k]? =some u/\w.ownsRow 0 K H u zs.length cells/\dc μ H zs cells/\∀g,cu u=some g->Ib G L id g/\∀j,μ g j=none)/\
   (∀i:Nat,I[i]? =some none->B[i]? =some undef)/\
   (∀u∈B,∀g,cu u=some g->cu m≠some g)/\
   (∀(i j:Nat) (u v:Value),B[i]? =some u->B[j]? =some v->i≠j->∀g,cu u=some g->cu v≠some g)
 | .lp xs=>∃B:List Value,l id= .tuple B.toArray/\(∀g,mG (l id) g->Ib G L id g/\g<w.heap.size/\∀j,μ g j=none)/\L.q.lp xs μ w B
def Mu.ext (n:Nat) (μ l:Mu):Prop:=μ.le l/\∀b j v,l b j=some v->μ b j=some v\/n<=b
def Mu.extL (n:Nat) (L:s8) (μ l:Mu):Prop:=μ.le l/\∀b j v,l b j=some v->μ b j=some v\/n<=b\/Zt L b
def Mu.ext.toL {n:Nat} {L:s8} {μ l:Mu} (h:μ.ext n l):μ.extL n L l:=⟨h.1,λb j v q=>(h.2 b j v q).imp (λh=>h) .inl⟩
structure Rel (N:Nat) (w0:World) (μ0:Mu) (L:s8) (μ:Mu) (loc:Nat->Value) (st:St) (a:Act) (w:World):Prop where
 small:N<=10000
 names:∀id,id<9000->L id=none
 fix:∀id v,L id=some v->10000<=id->id<20000->loc id=v
 size:a.tmps.size=N
 defers:a.defers=[]
 env:∀i sv,st.env i=some sv->∃v,a.tmps[i]? =some v/\fW μ loc sv v
 yc:∀b j v,μ b j=some v->HF w b j=some v
 base:μ0.extL w0.heap.size L μ
 obs:∀id o,st.ob id=some o->nY w0.heap.size L μ loc w id o
 apart:∀i j oi oj,st.ob i=some oi->st.ob j=some oj->i≠j->∀g,mG (loc i) g->¬mG (loc j) g
 keep:∀b,b<w0.heap.size->¬Nb L b->w.heap[b]? =w0.heap[b]?
 os:w.os=w0.os
 tape:w.tape=w0.tape
 output:w.output=w0.output
 grown:w0.heap.size<=w.heap.size
 drawn:L.q->w0.drawn<=w.drawn
def Rel.DH {N:Nat} {B:World} {D:Mu} {L:s8} {μ:Mu} {z:Nat->Value} {H:St} {a:Act} {w:World} (F:Rel N B D L μ z H a w) {id b:Nat} (l:id<10000) (h:Ib B.heap.size L id b):B.heap.size<=b\/Zt L b:=by
 rcases h with h|h|⟨v,q,h⟩
 .exact .inl h
 .exact .inr h
 .by_cases G:id<9000
  .rw[F.names id G] at q;cases q
  .exact .inr ⟨id,v,by omega,l,q,h⟩
def Zt.cG {L:s8} {b:Nat} (h:Zt L b):Nb L b:=by obtain⟨id,v,_,_,h⟩:=h;exact⟨id,v,h⟩
