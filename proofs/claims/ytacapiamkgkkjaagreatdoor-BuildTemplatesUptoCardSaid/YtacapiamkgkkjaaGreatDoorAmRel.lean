/- THE ABSTRACT MACHINE. -/
import Derived.Test.YtacapiamkgkkjaaGreatDoorAmDefs
set_option linter.all false
namespace Go.AM
abbrev Mu:=Nat->Nat->Option Value
def wK (l q:List Value):Value:= .tuple #[.tuple l.toArray, .tuple q.toArray]
def IM (w:World) (b j:Nat):Option Value:=
 match w.heap[b]? with
 |some (.cells c _ _)=>(c[j]?).bind λv=>if v.oneCell'=true then some v else none
 |some (.map l _)=>if j=0 then some (wK (l.toList.map (·.key)) (l.toList.map (·.val))) else none
 |_=>none
def y8 {w:World} {b j:Nat} {v:Value} (h:IM w b j=some v) (l:v.oneCell'=true):w.cell? ⟨b,j,none⟩=some v:=by
 unfold IM at h;unfold World.cell?;split at h
 .rename_i c t q z;simp only[z];obtain⟨u,B,h⟩:=dB.1 h;split at h
  .injection h with h;subst h;simpa using B
  .cases h
 .split at h
  .injection h with h;subst h;simp[wK,Value.oneCell'] at l
  .cases h
 .cases h
def xR {w:World} {b j:Nat} {v:Value} (h:w.cell? ⟨b,j,none⟩=some v) (z:v.oneCell'=true):IM w b j=some v:=by
 unfold World.cell? at h;unfold IM;split at h
 .rename_i c t q B;simp only[B];have l:c[j]? =some v:=by simpa using h
  simp[l,z]
 .cases h
def see_map {w:World} {b:Nat} {B z:List Value} (h:IM w b 0=some (wK B z)):∃dR l,w.heap[b]? =some (.map dR l)/\B=dR.toList.map (·.key)/\z=dR.toList.map (·.val):=by
 unfold IM at h;split at h
 .obtain⟨u,H,h⟩:=dB.1 h;split at h
  .rename_i q;injection h with h;subst h;simp[wK,Value.oneCell'] at q
  .cases h
 .rename_i F l G;simp only[gj,aW,wK,Value.tuple.injEq] at h;have q:=aU Array.toList h;simp only[c9,Value.tuple.injEq,eN] at q;have e1:=aU Array.toList q.1;have D:=aU Array.toList q.2;exact⟨F,l,G,by simpa using e1.symm,by simpa using D.symm⟩
 .cases h
def LZ {w:World} {b:Nat} {dR:Array MapEntry} {l:Nat} (h:w.heap[b]? =some (.map dR l)):IM w b 0=some (wK (dR.toList.map (·.key)) (dR.toList.map (·.val))):=by unfold IM;rw[h];simp
def q9 {w:World} {b j:Nat} {v:Value} (h:IM w b j=some v):b<w.heap.size:=by
 unfold IM at h;split at h
 .rename_i c t q l;exact(gm.1 l).1
 .rename_i B z l;exact(gm.1 l).1
 .cases h
theorem iU {w l:World} {b:Nat} (h:l.heap[b]? =w.heap[b]?) (j:Nat):IM l b j=IM w b j:=by unfold IM;rw[h]
mutual
def rep (μ:Mu):AV->Value->Prop
 | .bool b,v=>v= .bool b
 | .int k n,v=>v= .int k n
 | .str s,v=>v= .string ⟨s.toArray⟩
 | .dK sz xs,v=>∃A c,v= .slice A xs.length c/\xs.length<=c/\c<=maxLen/\(xs.length=0\/∃b off,A=some ⟨b,off,none⟩/\kV μ sz b xs off)
 | .agg cs,v=>∃vs:List Value,v= .agg vs.toArray/\cH μ cs vs/\∀u∈vs,u.oneCell'=true
 | .fn f caps,v=>∃vs:List Value,v= .func (.func f) #[] vs.toArray/\cH μ caps vs
 | .gy cs,v=>∃vs:List Value,v= .tuple vs.toArray/\cH μ cs vs
 | .ref cs,v=>∃(b off:Nat) (vs:List Value),v= .pointer (some ⟨b,off,none⟩)/\cH μ cs vs/\(∀u∈vs,u.oneCell'=true)/\∀j u,vs[j]? =some u->μ b (off+j)=some u
 | .self _,_=>False
 | .lY,v=>v= .pointer none
 | .ux,v=>v= .slice none 0 0
 | .hole,v=>v.oneCell'=true/\v.cells= #[v]
 | .mp ks es,v=>(v= .map none/\ks=[]/\es=[])\/∃(b:Nat) (kv ev:List Value),v= .map (some b)/\cH μ ks kv/\cH μ es ev/\μ b 0=some (wK kv ev)
def cH (μ:Mu):List AV->List Value->Prop
 |[],vs=>vs=[]
 |x::xs,vs=>∃u us,vs=u::us/\rep μ x u/\cH μ xs us
def kV (μ:Mu) (sz b:Nat):List (List AV)->Nat->Prop
 |[],_=>True
 |x::xs,off=>(∃vs:List Value,cH μ x vs/\(∀u∈vs,u.oneCell'=true)/\vs.length=sz/\∀j u,vs[j]? =some u->μ b (off+j)=some u)/\kV μ sz b xs (off+sz)
end
def mw (μ:Mu) (q:List AV) (l:List Value):Prop:=cH μ q l/\∀u∈l,u.oneCell'=true
def Mu.le (μ l:Mu):Prop:=∀b j v,μ b j=some v->l b j=some v
theorem Mu.le.refl (μ:Mu):μ.le μ:=λ_ _ _ h=>h
theorem Mu.le.trans {a b c:Mu} (h:a.le b) (k:b.le c):a.le c:=λx y v l=>k _ _ _ (h _ _ _ l)
mutual
theorem yZ {μ μ':Mu} (h:μ.le μ'):∀(x:AV) (v:Value),rep μ x v->rep μ' x v
 | .bool b,v=>λhv=>by simpa[rep] using hv
 | .int k n,v=>λhv=>by simpa[rep] using hv
 | .str s,v=>λhv=>by simpa[rep] using hv
 | .dK sz xs,v=>λhv=>by rw[rep] at hv⊢;obtain⟨A,c,e,h1,h2,h3⟩:=hv;exact⟨A,c,e,h1,h2,h3.imp id λ⟨b,off,ea,hr⟩=>⟨b,off,ea,IG h sz b xs off hr⟩⟩
 | .agg cs,v=>λhv=>by rw[rep] at hv⊢;obtain⟨vs,e,h1,h2⟩:=hv;exact⟨vs,e,gq h cs vs h1,h2⟩
 | .fn f caps,v=>λhv=>by rw[rep] at hv⊢;obtain⟨vs,e,h1⟩:=hv;exact⟨vs,e,gq h caps vs h1⟩
 | .gy cs,v=>λhv=>by rw[rep] at hv⊢;obtain⟨vs,e,h1⟩:=hv;exact⟨vs,e,gq h cs vs h1⟩
 | .ref cs,v=>λhv=>by rw[rep] at hv⊢;obtain⟨b,off,vs,e,h1,h2,h3⟩:=hv;exact⟨b,off,vs,e,gq h cs vs h1,h2,λj u hu=>h _ _ _ (h3 j u hu)⟩
 | .self n,v=>λhv=>by rw[rep] at hv;exact hv.elim
 | .lY,v=>λhv=>by simpa[rep] using hv
 | .ux,v=>λhv=>by simpa[rep] using hv
 | .hole,v=>λhv=>by simpa[rep] using hv
 | .mp ks es,v=>λhv=>by
  rw[rep] at hv⊢;rcases hv with hv|⟨b,kv,ev,e,h1,h2,h3⟩
  .exact .inl hv
  .exact .inr ⟨b,kv,ev,e,gq h ks kv h1,gq h es ev h2,h _ _ _ h3⟩
theorem gq {μ μ':Mu} (h:μ.le μ'):∀(xs:List AV) (vs:List Value),cH μ xs vs->cH μ' xs vs
 |[],vs=>λhv=>by simpa[cH] using hv
 |x::xs,vs=>λhv=>by rw[cH] at hv⊢;obtain⟨u,us,e,h1,h2⟩:=hv;exact⟨u,us,e,yZ h x u h1,gq h xs us h2⟩
theorem IG {μ μ':Mu} (h:μ.le μ') (sz b:Nat):∀(xs:List (List AV)) (off:Nat),kV μ sz b xs off->kV μ' sz b xs off
 |[],off=>λ_=>by simp[kV]
 |x::xs,off=>λhv=>by rw[kV] at hv⊢;obtain⟨⟨vs,h1,h2,h3,h4⟩,h5⟩:=hv;exact⟨⟨vs,gq h x vs h1,h2,h3,λj u hu=>h _ _ _ (h4 j u hu)⟩,IG h sz b xs _ h5⟩
end
def mw.mono {μ l:Mu} (h:μ.le l) {q:List AV} {w:List Value} (k:mw μ q w):mw l q w:=⟨gq h _ _ k.1,k.2⟩
section
variable {μ:Mu}
theorem dO:cH μ [] []:=by simp[cH]
theorem cC {x:AV} {xs:List AV} {v:Value} {l:List Value} (h:rep μ x v) (k:cH μ xs l):cH μ (x::xs) (v::l):=by rw[cH];exact⟨v,l,rfl,h,k⟩
theorem ud {xs:List AV} {l:List Value} (h:cH μ xs l):l.length=xs.length:=by induction xs generalizing l with
 |nil=>rw[cH] at h;subst h;rfl
 |cons x xs w=>rw[cH] at h;obtain⟨u,z,rfl,_,q⟩:=h;simp[w q]
def tQ {xs:List AV} {q:List Value} (h:cH μ xs q) {i:Nat} {x:AV} (l:xs[i]? =some x):∃v,q[i]? =some v/\rep μ x v:=by induction xs generalizing q i with
 |nil=>simp at l
 |cons y xs F=>rw[cH] at h;obtain⟨u,G,rfl,w,z⟩:=h;cases i with
  |zero=>simp at l;subst l;exact⟨u,by simp,w⟩
  |succ i=>simp at l;obtain⟨v,D,B⟩:=F z l;exact⟨v,by simpa using D,B⟩
theorem oV {xs w:List AV} {l q:List Value} (h:cH μ xs l) (k:cH μ w q):cH μ (xs++w) (l++q):=by induction xs generalizing l with
 |nil=>rw[cH] at h;subst h;simpa using k
 |cons x xs D=>rw[cH] at h;obtain⟨u,F,rfl,z,B⟩:=h;exact cC z (D B)
def Uy {xs:List AV} {l:List Value} (h:cH μ xs l) (n:Nat):cH μ (xs.drop n) (l.drop n):=by induction n generalizing xs l with
 |zero=>simpa using h
 |succ n w=>cases xs with
  |nil=>rw[cH] at h;subst h;simp[cH]
  |cons x xs=>rw[cH] at h;obtain⟨u,z,rfl,_,q⟩:=h;simpa using w q
def UA {xs:List AV} {l:List Value} (h:cH μ xs l) (n:Nat):cH μ (xs.take n) (l.take n):=by induction n generalizing xs l with
 |zero=>simp[cH]
 |succ n z=>cases xs with
  |nil=>rw[cH] at h;subst h;simp[cH]
  |cons x xs=>rw[cH] at h;obtain⟨u,B,rfl,q,w⟩:=h;simpa using cC q (z w)
theorem mw.drop {l:List AV} {q:List Value} (h:mw μ l q) (n:Nat):mw μ (l.drop n) (q.drop n):=
 ⟨Uy h.1 n,λu w=>h.2 u (jw w)⟩
theorem mw.take {l:List AV} {q:List Value} (h:mw μ l q) (n:Nat):mw μ (l.take n) (q.take n):=
 ⟨UA h.1 n,λu w=>h.2 u (vX w)⟩
def mw.append {l q:List AV} {z w:List Value} (h:mw μ l z) (k:mw μ q w):mw μ (l++q) (z++w):=
 ⟨oV h.1 k.1,λu B=>(bf.1 B).elim (h.2 u) (k.2 u)⟩
def mw.length {l:List AV} {q:List Value} (h:mw μ l q):q.length=l.length:=ud h.1
def Oj {x:AV} {v:Value} (h:rep μ x v) (F:∀q,x≠ .gy q):mw μ x.cells v.cells.toList:=by cases x with
 |agg z=>rw[rep] at h;obtain⟨q,rfl,B,D⟩:=h;exact⟨by simpa[AV.cells,Value.cells] using B,by simpa[Value.cells] using D⟩
 |gy q=>exact absurd rfl (F q)
 |dK N xs=>have l:=h;rw[rep] at l;obtain⟨A,c,rfl,_⟩:=l;exact⟨cC h dO,by simp[Value.cells,Value.oneCell']⟩
 |fn f w=>have l:=h;rw[rep] at l;obtain⟨q,rfl,_⟩:=l;exact⟨cC h dO,by simp[Value.cells,Value.oneCell']⟩
 |ref z=>have l:=h;rw[rep] at l;obtain⟨b,G,q,rfl,_⟩:=l;exact⟨cC h dO,by simp[Value.cells,Value.oneCell']⟩
 |self n=>rw[rep] at h;exact h.elim
 |lY=>have l:=h;rw[rep] at l;subst l;exact⟨cC h dO,by simp[Value.cells,Value.oneCell']⟩
 |ux=>have l:=h;rw[rep] at l;subst l;exact⟨cC h dO,by simp[Value.cells,Value.oneCell']⟩
 |hole=>have l:=h;rw[rep] at l;rw[l.2];exact⟨cC h dO,by simp[l.1]⟩
 |mp K H=>
  have l:=h;rw[rep] at l;rcases l with⟨rfl,_⟩|⟨b,L,I,rfl,_⟩
  .exact⟨cC h dO,by simp[Value.cells,Value.oneCell']⟩
  .exact⟨cC h dO,by simp[Value.cells,Value.oneCell']⟩
 |bool b=>have l:=h;rw[rep] at l;subst l;exact⟨cC h dO,by simp[Value.cells,Value.oneCell']⟩
 |int k n=>have l:=h;rw[rep] at l;subst l;exact⟨cC h dO,by simp[Value.cells,Value.oneCell']⟩
 |str s=>have l:=h;rw[rep] at l;subst l;exact⟨cC h dO,by simp[Value.cells,Value.oneCell']⟩
def Xd {q b:Nat} {xs:List (List AV)} {l:Nat} (h:kV μ q b xs l) {i:Nat} {x:List AV} (w:xs[i]? =some x):
  ∃z:List Value,mw μ x z/\z.length=q/\∀j u,z[j]? =some u->μ b (l+(i *q)+j)=some u:=by
 induction xs generalizing l i with
 |nil=>simp at w
 |cons y xs L=>rw[kV] at h;obtain⟨⟨z,D,F,G,H⟩,I⟩:=h;cases i with
  |zero=>simp at w;subst w;exact⟨z,⟨D,F⟩,G,by simpa using H⟩
  |succ i=>simp at w;obtain⟨B,N,O,P⟩:=L I w;refine⟨B,N,O,λj u K=> ?_⟩;have:=P j u K;rwa[show l+q+i *q+j=l+(i+1) *q+j from by rw[jE];omega] at this
def UB {q b:Nat} {xs:List (List AV)} {l:Nat} (h:kV μ q b xs l) (n:Nat) (w:n<=xs.length):kV μ q b (xs.drop n) (l+n *q):=by induction n generalizing xs l with
 |zero=>simpa using h
 |succ n z=>cases xs with
  |nil=>simp at w
  |cons x xs=>rw[kV] at h;have:=z h.2 (by simpa using w);rw[HC];rwa[show l+(n+1) *q=l+q+n *q from by rw[jE];omega]
def UC {q b:Nat} {xs:List (List AV)} {l:Nat} (h:kV μ q b xs l) (n:Nat):kV μ q b (xs.take n) l:=by induction n generalizing xs l with
 |zero=>simp[kV]
 |succ n w=>cases xs with
  |nil=>simp[kV]
  |cons x xs=>rw[Bj];rw[kV] at h⊢;exact⟨h.1,w h.2⟩
end
def fO:Value->Value
 | .tuple l=>l.getD 0 undef
 |v=>v
def Qz (μ:Mu) (l:Nat->Value):pq->Value->Prop
 | .v a,u=>rep μ a u
 | .p id,u=>∃b,l id= .pointer (some ⟨b,0,none⟩)/\u= .pointer (some ⟨b,0,none⟩)
 | .r id,u=>u=fO (l id)
def lM (μ:Mu) (l:Nat->Value):List pq->List Value->Prop
 |[],q=>q=[]
 |c::z,q=>∃u w,q=u::w/\Qz μ l c u/\lM μ l z w
def clV (g:Nat) (l:List Value):Value:=
 bif Nat.blt g 1000000 then .func (.func g) #[] l.toArray
 else bif Nat.blt g 2000000 then .func (.func (g-1000000)) l.toArray #[]
 else match l with
  |[.pointer (some a)]=> .func (.yield a.block) #[] #[]
  |_=> .func (.func 0) #[] #[]
def yY:Ak->Value->Value->Prop
 | .bs n,v,u=>∃b,v= .pointer (some ⟨b,0,none⟩)/\u= .slice (some ⟨b,0,none⟩) n n
 | .full,v,u=>∃A n c,v= .slice A n c/\u= .slice A n n
 | .nr i,v,u=>∃(m:Value) (l:List Value),v= .tuple (m::l).toArray/\(∃A n c,m= .slice A n c)/\∀x,l[i]? =some x->x=undef\/x=u
def gb (μ:Mu) (l:Nat->Value):SV->Value->Prop
 | .undef,u=>u=undef
 | .any,_=>True
 | .pv v,u=>rep μ v u
 | .ptr id w,u=>∃b,l id= .pointer (some ⟨b,0,none⟩)/\u= .pointer (some ⟨b,w,none⟩)
 | .row id,u=>u=fO (l id)
 | .rp id H i w,u=>∃g n c,fO (l id)= .slice (some ⟨g,0,none⟩) n c/\u= .pointer (some ⟨g,i *H+w,none⟩)
 | .sub id H D F,u=>∃A n c G c',l id= .slice A n c/\D<=F/\F<=n/\F-D<=c'/\u= .slice G (F-D) c'/\(D=0->G=A/\c'=c)/\(D<F->∃g,A=some ⟨g,0,none⟩/\G=some ⟨g,D *H,none⟩)
 | .cp I,u=>∃b w B,u= .pointer (some ⟨b,w,none⟩)/\mw μ I B/\∀j v,B[j]? =some v->μ b (w+j)=some v
 | .cl f z,u=>∃B:List Value,u=clV f B/\lM μ l z B
 | .two s t,u=>∃x y,u= .tuple #[x,y]/\gb μ l s x/\gb μ l t y
 | .ag z,u=>∃B:List Value,u= .agg B.toArray/\lM μ l z B/\∀x∈B,x.oneCell'=true
 | .aq id q,u=>yY q (l id) u
def iq (μ:Mu) (l:Nat->Value):List SV->List Value->Prop
 |[],q=>q=[]
 |x::xs,q=>∃u w,q=u::w/\gb μ l x u/\iq μ l xs w
def de (μ:Mu) (w:Nat):List (List AV)->List Value->Prop
 |[],q=>q=[]
 |x::xs,q=>∃l ws,q=l++ws/\mw μ x l/\l.length=w/\de μ w xs ws
def bH:Value->Option Nat
 | .pointer (some a)=>some a.block
 | .slice (some a) _ _=>some a.block
 | .map (some b)=>some b
 |_=>none
def mb (v:Value) (b:Nat):Prop:=bH v=some b\/∃l:List Value,v= .tuple l.toArray/\∃u∈l,bH u=some b
structure Qp where
 p:Prop
 lp:List AV->Mu->World->List Value->Prop:=λ_ _ _ _=>False
 mono:∀{xs:List AV} {μ μ':Mu} {w:World} {us:List Value},μ.le μ'->lp xs μ w us->lp xs μ' w us:=by exact λ_ h=>h
 keep:∀{xs:List AV} {μ:Mu} {w w':World} {us:List Value},(∀b,(∃u∈us,bH u=some b)->w'.heap[b]? =w.heap[b]?)->lp xs μ w us->lp xs μ w' us:=by exact λ_ h=>h.elim
instance:CoeSort Qp Prop:=⟨Qp.p⟩
instance:Coe Prop Qp:=⟨λp=>{ p:=p,mono:=λ_ h=>h,keep:=λ_ h=>h.elim }⟩
structure tG where
 f:Nat->Option Value
 q:Qp
instance:CoeFun tG (λ_=>Nat->Option Value):=⟨tG.f⟩
def NU (L:tG) (b:Nat):Prop:=∃id v,L id=some v/\mb v b
def V0 (L:tG) (b:Nat):Prop:=∃id v,9000<=id/\id<10000/\L id=some v/\mb v b
def GY (l:Nat) (L:tG) (id b:Nat):Prop:=l<=b\/V0 L b\/∃v,L id=some v/\mb v b
def abj (dR:Array MapEntry) (l:Nat):Prop:=(∀x∈dR.toList,x.born<l)/\(dR.toList.map (·.born)).Nodup
def mS (G:Nat) (L:tG) (μ:Mu) (l:Nat->Value) (w:World) (id:Nat):Ob->Prop
 | .box t cells=>∃(b:Nat) (D:List Value),l id= .pointer (some ⟨b,0,none⟩)/\GY G L id b/\w.heap[b]? =some (.cells D.toArray t (0,0))/\(∀j,μ b j=none)/\iq μ l cells D/\∀u∈D,u.oneCell'=true
 | .row e F xs=>∃D:List Value,w.ownsRow 0 e F (l id) xs.length D/\de μ F xs D/\∀g,mb (l id) g->GY G L id g/\∀j,μ g j=none
 | .mp k e K O=>∃(b:Nat) (dR:Array MapEntry) (z:Nat),l id= .map (some b)/\GY G L id b/\w.heap[b]? =some (.map dR z)/\(∀j,μ b j=none)/\cH μ K (dR.toList.map (·.key))/\cH μ O (dR.toList.map (·.val))/\abj dR z
 | .mr k e F K D=>∃(b:Nat) (dR:Array MapEntry) (z:Nat) (B:List Value),l id= .tuple (.map (some b)::B).toArray/\G<=b/\w.heap[b]? =some (.map dR z)/\(∀j,μ b j=none)/\
   cH μ K (dR.toList.map (·.key))/\B.length=D.length/\dR.size=D.length/\
   (∀(i:Nat) xs,D[i]? =some (some xs)->∃(u:Value) (cells:List Value),B[i]? =some u/\(dR.toList.map (·.val))[i]? =some u/\w.ownsRow 0 e F u xs.length cells/\de μ F xs cells/\∀g,bH u=some g->(G<=g\/V0 L g)/\∀j,μ g j=none)/\
   (∀i:Nat,D[i]? =some none->B[i]? =some undef)/\
   (∀(i j:Nat) (u v:Value),B[i]? =some u->B[j]? =some v->i≠j->∀g,bH u=some g->bH v≠some g)
 | .rn e F k N H xs I=>∃(m:Value) (B D:List Value),l id= .tuple (m::B).toArray/\(∀q,bH m=some q->GY G L id q/\∀j,μ q j=none)/\w.ownsRow 0 e F m xs.length D/\de μ F xs D/\(k<F/\∀c∈xs,c[k]? =some AV.hole)/\
   B.length=I.length/\xs.length=I.length/\
   (∀(i:Nat) zs,I[i]? =some (some zs)->∃(u:Value) (cells:List Value),B[i]? =some u/\D[i *F+k]? =some u/\w.ownsRow 0 N H u zs.length cells/\de μ H zs cells/\∀g,bH u=some g->GY G L id g/\∀j,μ g j=none)/\
   (∀i:Nat,I[i]? =some none->B[i]? =some undef)/\
   (∀u∈B,∀g,bH u=some g->bH m≠some g)/\
   (∀(i j:Nat) (u v:Value),B[i]? =some u->B[j]? =some v->i≠j->∀g,bH u=some g->bH v≠some g)
 | .it s pos=>∃b,l id= .pointer (some ⟨b,0,none⟩)/\GY G L id b/\w.heap[b]? =some (.stringIter ⟨s.toArray⟩ pos)/\∀j,μ b j=none
 | .lp xs=>∃B:List Value,l id= .tuple B.toArray/\(∀g,mb (l id) g->GY G L id g/\g<w.heap.size/\∀j,μ g j=none)/\L.q.lp xs μ w B
def Mu.ext (n:Nat) (μ l:Mu):Prop:=μ.le l/\∀b j v,l b j=some v->μ b j=some v\/n<=b
def Mu.extL (n:Nat) (L:tG) (μ l:Mu):Prop:=μ.le l/\∀b j v,l b j=some v->μ b j=some v\/n<=b\/V0 L b
def Mu.ext.toL {n:Nat} {L:tG} {μ l:Mu} (h:μ.ext n l):μ.extL n L l:=⟨h.1,λb j v q=>(h.2 b j v q).imp (λh=>h) .inl⟩
structure Rel (N:Nat) (w0:World) (μ0:Mu) (L:tG) (μ:Mu) (loc:Nat->Value) (st:St) (a:Act) (w:World):Prop where
 small:N<=10000
 names:∀id,id<9000->L id=none
 fix:∀id v,L id=some v->10000<=id->id<20000->loc id=v
 size:a.tmps.size=N
 defers:a.defers=[]
 env:∀i sv,st.env i=some sv->∃v,a.tmps[i]? =some v/\gb μ loc sv v
 yx:∀b j v,μ b j=some v->IM w b j=some v
 base:μ0.extL w0.heap.size L μ
 obs:∀id o,st.ob id=some o->mS w0.heap.size L μ loc w id o
 apart:∀i j oi oj,st.ob i=some oi->st.ob j=some oj->i≠j->∀g,mb (loc i) g->¬mb (loc j) g
 keep:∀b,b<w0.heap.size->¬NU L b->w.heap[b]? =w0.heap[b]?
 os:w.os=w0.os
 tape:w.tape=w0.tape
 output:w.output=w0.output
 grown:w0.heap.size<=w.heap.size
 drawn:L.q->w0.drawn<=w.drawn
def Rel.BS {N:Nat} {B:World} {D:Mu} {L:tG} {μ:Mu} {z:Nat->Value} {H:St} {a:Act} {w:World} (F:Rel N B D L μ z H a w) {id b:Nat} (l:id<10000) (h:GY B.heap.size L id b):B.heap.size<=b\/V0 L b:=by
 rcases h with h|h|⟨v,q,h⟩
 .exact .inl h
 .exact .inr h
 .by_cases G:id<9000
  .rw[F.names id G] at q;cases q
  .exact .inr ⟨id,v,by omega,l,q,h⟩
def V0.cM {L:tG} {b:Nat} (h:V0 L b):NU L b:=by obtain⟨id,v,_,_,h⟩:=h;exact⟨id,v,h⟩
