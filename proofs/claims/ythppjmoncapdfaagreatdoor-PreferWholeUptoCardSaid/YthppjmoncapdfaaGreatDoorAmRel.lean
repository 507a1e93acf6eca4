/- THE ABSTRACT MACHINE. -/
import Derived.Test.YthppjmoncapdfaaGreatDoorAmDefs
set_option linter.all false
namespace Go.AM
abbrev Mu:=Nat→Nat→Option Value
def vg (ks vs:List Value):Value:= .tuple #[.tuple ks.toArray, .tuple vs.toArray]
def EH (w:World) (b j:Nat):Option Value:=
 match w.heap[b]? with
 |some (.cells c _ _)=>(c[j]?).bind fun v=>if v.oneCell'=true then some v else none
 |some (.map es _)=>if j=0 then some (vg (es.toList.map (·.key)) (es.toList.map (·.val))) else none
 |_=>none
theorem tD {w:World} {b j:Nat} {v:Value} (h:EH w b j=some v) (h1:v.oneCell'=true):w.cell? ⟨b,j,none⟩=some v:=by
 unfold EH at h;unfold World.cell?;split at h
 ·rename_i c t q hc
  simp only [hc];obtain ⟨u,hu,h⟩:=dw.1 h;split at h
  ·injection h with h;subst h;simpa using hu
  ·cases h
 ·split at h
  ·injection h with h;subst h;simp [vg,Value.oneCell'] at h1
  ·cases h
 ·cases h
theorem tE {w:World} {b j:Nat} {v:Value} (h:w.cell? ⟨b,j,none⟩=some v) (h1:v.oneCell'=true):EH w b j=some v:=by
 unfold World.cell? at h;unfold EH;split at h
 ·rename_i c t q hc
  simp only [hc];have h':c[j]? =some v:=by simpa using h
  simp [h',h1]
 ·cases h
theorem see_map {w:World} {b:Nat} {kv ev:List Value} (h:EH w b 0=some (vg kv ev)):∃cN clock,w.heap[b]? =some (.map cN clock)∧kv=cN.toList.map (·.key)∧ev=cN.toList.map (·.val):=by
 unfold EH at h;split at h
 ·obtain ⟨u,hu,h⟩:=dw.1 h
  split at h
  ·rename_i h1;injection h with h;subst h;simp [vg,Value.oneCell'] at h1
  ·cases h
 ·rename_i es clock hc
  simp only [fN,aG,vg,Value.tuple.injEq] at h;have h1:=aI Array.toList h;simp only [dz,Value.tuple.injEq,fO] at h1;have e1:=aI Array.toList h1.1;have e2:=aI Array.toList h1.2;exact ⟨es,clock,hc,by simpa using e1.symm,by simpa using e2.symm⟩
 ·cases h
theorem JT {w:World} {b:Nat} {cN:Array MapEntry} {clock:Nat} (h:w.heap[b]? =some (.map cN clock)):EH w b 0=some (vg (cN.toList.map (·.key)) (cN.toList.map (·.val))):=by
 unfold EH;rw [h];simp
theorem mq {w:World} {b j:Nat} {v:Value} (h:EH w b j=some v):b<w.heap.size:=by
 unfold EH at h;split at h
 ·rename_i c t q hc;exact (eG.1 hc).1
 ·rename_i es cl hc;exact (eG.1 hc).1
 ·cases h
theorem fZ {w w':World} {b:Nat} (h:w'.heap[b]? =w.heap[b]?) (j:Nat):EH w' b j=EH w b j:=by
 unfold EH;rw [h]
mutual
def rep (μ:Mu):AV→Value→Prop
 | .bool b,v=>v= .bool b
 | .int k n,v=>v= .int k n
 | .str s,v=>v= .string ⟨s.toArray⟩
 | .eH sz xs,v=>∃A c,v= .slice A xs.length c∧xs.length≤c∧c≤maxLen∧(xs.length=0∨∃b off,A=some ⟨b,off,none⟩∧kS μ sz b xs off)
 | .agg cs,v=>∃vs:List Value,v= .agg vs.toArray∧bV μ cs vs∧∀u∈vs,u.oneCell'=true
 | .fn f caps,v=>∃vs:List Value,v= .func (.func f) #[] vs.toArray∧bV μ caps vs
 | .mu cs,v=>∃vs:List Value,v= .tuple vs.toArray∧bV μ cs vs
 | .ref cs,v=>∃(b off:Nat) (vs:List Value),v= .pointer (some ⟨b,off,none⟩)∧bV μ cs vs∧(∀u∈vs,u.oneCell'=true)∧∀j u,vs[j]? =some u→μ b (off+j)=some u
 | .self _,_=>False
 | .DZ,v=>v= .pointer none
 | .rK,v=>v= .slice none 0 0
 | .hole,v=>v.oneCell'=true∧v.cells= #[v]
 | .mp ks es,v=>(v= .map none∧ks=[]∧es=[])∨∃(b:Nat) (kv ev:List Value),v= .map (some b)∧bV μ ks kv∧bV μ es ev∧μ b 0=some (vg kv ev)
def bV (μ:Mu):List AV→List Value→Prop
 |[],vs=>vs=[]
 |x::xs,vs=>∃u us,vs=u::us∧rep μ x u∧bV μ xs us
def kS (μ:Mu) (sz b:Nat):List (List AV)→Nat→Prop
 |[],_=>True
 |x::xs,off=>(∃vs:List Value,bV μ x vs∧(∀u∈vs,u.oneCell'=true)∧vs.length=sz∧∀j u,vs[j]? =some u→μ b (off+j)=some u)∧kS μ sz b xs (off+sz)
end
def ku (μ:Mu) (cs:List AV) (vs:List Value):Prop:=bV μ cs vs∧∀u∈vs,u.oneCell'=true
def Mu.le (μ μ':Mu):Prop:=∀b j v,μ b j=some v→μ' b j=some v
theorem Mu.le.refl (μ:Mu):μ.le μ:=fun _ _ _ h=>h
theorem Mu.le.trans {a b c:Mu} (h:a.le b) (k:b.le c):a.le c:=fun x y v hv=>k _ _ _ (h _ _ _ hv)
mutual
theorem vt {μ μ':Mu} (h:μ.le μ'):∀(x:AV) (v:Value),rep μ x v→rep μ' x v
 | .bool b,v=>fun hv=>by simpa [rep] using hv
 | .int k n,v=>fun hv=>by simpa [rep] using hv
 | .str s,v=>fun hv=>by simpa [rep] using hv
 | .eH sz xs,v=>fun hv=>by
  rw [rep] at hv⊢;obtain ⟨A,c,e,h1,h2,h3⟩:=hv;exact ⟨A,c,e,h1,h2,h3.imp id fun ⟨b,off,ea,hr⟩=>⟨b,off,ea,Gp h sz b xs off hr⟩⟩
 | .agg cs,v=>fun hv=>by
  rw [rep] at hv⊢;obtain ⟨vs,e,h1,h2⟩:=hv;exact ⟨vs,e,fJ h cs vs h1,h2⟩
 | .fn f caps,v=>fun hv=>by
  rw [rep] at hv⊢;obtain ⟨vs,e,h1⟩:=hv;exact ⟨vs,e,fJ h caps vs h1⟩
 | .mu cs,v=>fun hv=>by
  rw [rep] at hv⊢;obtain ⟨vs,e,h1⟩:=hv;exact ⟨vs,e,fJ h cs vs h1⟩
 | .ref cs,v=>fun hv=>by
  rw [rep] at hv⊢;obtain ⟨b,off,vs,e,h1,h2,h3⟩:=hv;exact ⟨b,off,vs,e,fJ h cs vs h1,h2,fun j u hu=>h _ _ _ (h3 j u hu)⟩
 | .self n,v=>fun hv=>by rw [rep] at hv;exact hv.elim
 | .DZ,v=>fun hv=>by simpa [rep] using hv
 | .rK,v=>fun hv=>by simpa [rep] using hv
 | .hole,v=>fun hv=>by simpa [rep] using hv
 | .mp ks es,v=>fun hv=>by
  rw [rep] at hv⊢;rcases hv with hv|⟨b,kv,ev,e,h1,h2,h3⟩
  ·exact .inl hv
  ·exact .inr ⟨b,kv,ev,e,fJ h ks kv h1,fJ h es ev h2,h _ _ _ h3⟩
theorem fJ {μ μ':Mu} (h:μ.le μ'):∀(xs:List AV) (vs:List Value),bV μ xs vs→bV μ' xs vs
 |[],vs=>fun hv=>by simpa [bV] using hv
 |x::xs,vs=>fun hv=>by
  rw [bV] at hv⊢;obtain ⟨u,us,e,h1,h2⟩:=hv;exact ⟨u,us,e,vt h x u h1,fJ h xs us h2⟩
theorem Gp {μ μ':Mu} (h:μ.le μ') (sz b:Nat):∀(xs:List (List AV)) (off:Nat),kS μ sz b xs off→kS μ' sz b xs off
 |[],off=>fun _=>by simp [kS]
 |x::xs,off=>fun hv=>by
  rw [kS] at hv⊢;obtain ⟨⟨vs,h1,h2,h3,h4⟩,h5⟩:=hv;exact ⟨⟨vs,fJ h x vs h1,h2,h3,fun j u hu=>h _ _ _ (h4 j u hu)⟩,Gp h sz b xs _ h5⟩
end
theorem ku.mono {μ μ':Mu} (h:μ.le μ') {cs:List AV} {vs:List Value} (k:ku μ cs vs):ku μ' cs vs:=⟨fJ h _ _ k.1,k.2⟩
section
variable {μ:Mu}
theorem ef:bV μ [] []:=by simp [bV]
theorem bY {x:AV} {xs:List AV} {v:Value} {vs:List Value} (h:rep μ x v) (k:bV μ xs vs):bV μ (x::xs) (v::vs):=by
 rw [bV];exact ⟨v,vs,rfl,h,k⟩
theorem n9 {xs:List AV} {vs:List Value} (h:bV μ xs vs):vs.length=xs.length:=by
 induction xs generalizing vs with
 |nil=>rw [bV] at h;subst h;rfl
 |cons x xs ih=>rw [bV] at h;obtain ⟨u,us,rfl,_,h2⟩:=h;simp [ih h2]
theorem sJ {xs:List AV} {vs:List Value} (h:bV μ xs vs) {i:Nat} {x:AV} (hx:xs[i]? =some x):∃v,vs[i]? =some v∧rep μ x v:=by
 induction xs generalizing vs i with
 |nil=>simp at hx
 |cons y xs ih=>
  rw [bV] at h;obtain ⟨u,us,rfl,h1,h2⟩:=h;cases i with
  |zero=>simp at hx;subst hx;exact ⟨u,by simp,h1⟩
  |succ i=>simp at hx;obtain ⟨v,hv,hr⟩:=ih h2 hx;exact ⟨v,by simpa using hv,hr⟩
theorem nZ {xs ys:List AV} {vs us:List Value} (h:bV μ xs vs) (k:bV μ ys us):bV μ (xs++ys) (vs++us):=by
 induction xs generalizing vs with
 |nil=>rw [bV] at h;subst h;simpa using k
 |cons x xs ih=>
  rw [bV] at h;obtain ⟨u,vs',rfl,h1,h2⟩:=h;exact bY h1 (ih h2)
theorem Ry {xs:List AV} {vs:List Value} (h:bV μ xs vs) (n:Nat):bV μ (xs.drop n) (vs.drop n):=by
 induction n generalizing xs vs with
 |zero=>simpa using h
 |succ n ih=>
  cases xs with
  |nil=>rw [bV] at h;subst h;simp [bV]
  |cons x xs=>rw [bV] at h;obtain ⟨u,us,rfl,_,h2⟩:=h;simpa using ih h2
theorem RA {xs:List AV} {vs:List Value} (h:bV μ xs vs) (n:Nat):bV μ (xs.take n) (vs.take n):=by
 induction n generalizing xs vs with
 |zero=>simp [bV]
 |succ n ih=>
  cases xs with
  |nil=>rw [bV] at h;subst h;simp [bV]
  |cons x xs=>rw [bV] at h;obtain ⟨u,us,rfl,h1,h2⟩:=h;simpa using bY h1 (ih h2)
theorem ku.drop {cs:List AV} {vs:List Value} (h:ku μ cs vs) (n:Nat):ku μ (cs.drop n) (vs.drop n):=
 ⟨Ry h.1 n,fun u hu=>h.2 u (yt hu)⟩
theorem ku.take {cs:List AV} {vs:List Value} (h:ku μ cs vs) (n:Nat):ku μ (cs.take n) (vs.take n):=
 ⟨RA h.1 n,fun u hu=>h.2 u (BY hu)⟩
theorem ku.append {cs ds:List AV} {vs us:List Value} (h:ku μ cs vs) (k:ku μ ds us):ku μ (cs++ds) (vs++us):=
 ⟨nZ h.1 k.1,fun u hu=>(bC.1 hu).elim (h.2 u) (k.2 u)⟩
theorem ku.length {cs:List AV} {vs:List Value} (h:ku μ cs vs):vs.length=cs.length:=n9 h.1
theorem LU {x:AV} {v:Value} (h:rep μ x v) (ht:∀vs,x≠ .mu vs):ku μ x.cells v.cells.toList:=by
 cases x with
 |agg cs=>
  rw [rep] at h;obtain ⟨vs,rfl,h1,h2⟩:=h;exact ⟨by simpa [AV.cells,Value.cells] using h1,by simpa [Value.cells] using h2⟩
 |mu vs=>exact absurd rfl (ht vs)
 |eH sz xs=>
  have h':=h;rw [rep] at h';obtain ⟨A,c,rfl,_⟩:=h';exact ⟨bY h ef,by simp [Value.cells,Value.oneCell']⟩
 |fn f caps=>
  have h':=h;rw [rep] at h';obtain ⟨vs,rfl,_⟩:=h';exact ⟨bY h ef,by simp [Value.cells,Value.oneCell']⟩
 |ref cs=>
  have h':=h;rw [rep] at h';obtain ⟨b,off,vs,rfl,_⟩:=h';exact ⟨bY h ef,by simp [Value.cells,Value.oneCell']⟩
 |self n=>rw [rep] at h;exact h.elim
 |DZ=>have h':=h;rw [rep] at h';subst h';exact ⟨bY h ef,by simp [Value.cells,Value.oneCell']⟩
 |rK=>have h':=h;rw [rep] at h';subst h';exact ⟨bY h ef,by simp [Value.cells,Value.oneCell']⟩
 |hole=>have h':=h;rw [rep] at h';rw [h'.2];exact ⟨bY h ef,by simp [h'.1]⟩
 |mp ks es=>
  have h':=h;rw [rep] at h';rcases h' with ⟨rfl,_⟩|⟨b,kv,ev,rfl,_⟩
  ·exact ⟨bY h ef,by simp [Value.cells,Value.oneCell']⟩
  ·exact ⟨bY h ef,by simp [Value.cells,Value.oneCell']⟩
 |bool b=>have h':=h;rw [rep] at h';subst h';exact ⟨bY h ef,by simp [Value.cells,Value.oneCell']⟩
 |int k n=>have h':=h;rw [rep] at h';subst h';exact ⟨bY h ef,by simp [Value.cells,Value.oneCell']⟩
 |str s=>have h':=h;rw [rep] at h';subst h';exact ⟨bY h ef,by simp [Value.cells,Value.oneCell']⟩
theorem CA {sz b:Nat} {xs:List (List AV)} {off:Nat} (h:kS μ sz b xs off) {i:Nat} {x:List AV} (hx:xs[i]? =some x):
  ∃vs:List Value,ku μ x vs∧vs.length=sz∧∀j u,vs[j]? =some u→μ b (off+(i *sz)+j)=some u:=by
 induction xs generalizing off i with
 |nil=>simp at hx
 |cons y xs ih=>
  rw [kS] at h;obtain ⟨⟨vs,h1,h2,h3,h4⟩,h5⟩:=h;cases i with
  |zero=>simp at hx;subst hx;exact ⟨vs,⟨h1,h2⟩,h3,by simpa using h4⟩
  |succ i=>
   simp at hx;obtain ⟨vs',k1,k2,k3⟩:=ih h5 hx;refine ⟨vs',k1,k2,fun j u hu=> ?_⟩;have:=k3 j u hu
   rwa [show off+sz+i *sz+j=off+(i+1) *sz+j from by rw [jl];omega] at this
theorem RB {sz b:Nat} {xs:List (List AV)} {off:Nat} (h:kS μ sz b xs off) (n:Nat) (hn:n≤xs.length):kS μ sz b (xs.drop n) (off+n *sz):=by
 induction n generalizing xs off with
 |zero=>simpa using h
 |succ n ih=>
  cases xs with
  |nil=>simp at hn
  |cons x xs=>
   rw [kS] at h;have:=ih h.2 (by simpa using hn);rw [List.drop_succ_cons]
   rwa [show off+(n+1) *sz=off+sz+n *sz from by rw [jl];omega]
theorem RC {sz b:Nat} {xs:List (List AV)} {off:Nat} (h:kS μ sz b xs off) (n:Nat):kS μ sz b (xs.take n) off:=by
 induction n generalizing xs off with
 |zero=>simp [kS]
 |succ n ih=>
  cases xs with
  |nil=>simp [kS]
  |cons x xs=>rw [List.take_succ_cons];rw [kS] at h⊢;exact ⟨h.1,ih h.2⟩
end
def fM:Value→Value
 | .tuple us=>us.getD 0 undef
 |v=>v
def repCap (μ:Mu) (loc:Nat→Value):qm→Value→Prop
 | .v a,u=>rep μ a u
 | .p id,u=>∃b,loc id= .pointer (some ⟨b,0,none⟩)∧u= .pointer (some ⟨b,0,none⟩)
 | .r id,u=>u=fM (loc id)
def kz (μ:Mu) (loc:Nat→Value):List qm→List Value→Prop
 |[],vs=>vs=[]
 |c::cs,vs=>∃u us,vs=u::us∧repCap μ loc c u∧kz μ loc cs us
def clV (g:Nat) (vs:List Value):Value:=
 bif Nat.blt g 1000000 then .func (.func g) #[] vs.toArray
 else bif Nat.blt g 2000000 then .func (.func (g-1000000)) vs.toArray #[]
 else match vs with
  |[.pointer (some a)]=> .func (.yield a.block) #[] #[]
  |_=> .func (.func 0) #[] #[]
def xx:Ak→Value→Value→Prop
 | .full,v,u=>∃A n c,v= .slice A n c∧u= .slice A n n
 | .nr i,v,u=>∃(m:Value) (us:List Value),v= .tuple (m::us).toArray∧(∃A n c,m= .slice A n c)∧∀x,us[i]? =some x→x=undef∨x=u
def gy (μ:Mu) (loc:Nat→Value):SV→Value→Prop
 | .undef,u=>u=undef
 | .any,_=>True
 | .pv v,u=>rep μ v u
 | .ptr id off,u=>∃b,loc id= .pointer (some ⟨b,0,none⟩)∧u= .pointer (some ⟨b,off,none⟩)
 | .row id,u=>u=fM (loc id)
 | .rp id sz i off,u=>∃g n c,fM (loc id)= .slice (some ⟨g,0,none⟩) n c∧u= .pointer (some ⟨g,i *sz+off,none⟩)
 | .sub id sz lo hi,u=>∃A n c A' c',loc id= .slice A n c∧lo≤hi∧hi≤n∧hi-lo≤c'∧u= .slice A' (hi-lo) c'∧(lo=0→A'=A∧c'=c)∧(lo<hi→∃g,A=some ⟨g,0,none⟩∧A'=some ⟨g,lo *sz,none⟩)
 | .cp cs,u=>∃b off vs,u= .pointer (some ⟨b,off,none⟩)∧ku μ cs vs∧∀j v,vs[j]? =some v→μ b (off+j)=some v
 | .cl f caps,u=>∃vs:List Value,u=clV f vs∧kz μ loc caps vs
 | .two s b,u=>∃x,u= .tuple #[x, .bool b]∧gy μ loc s x
 | .ag caps,u=>∃vs:List Value,u= .agg vs.toArray∧kz μ loc caps vs∧∀x∈vs,x.oneCell'=true
 | .at id q,u=>xx q (loc id) u
def iQ (μ:Mu) (loc:Nat→Value):List SV→List Value→Prop
 |[],vs=>vs=[]
 |x::xs,vs=>∃u us,vs=u::us∧gy μ loc x u∧iQ μ loc xs us
def c4 (μ:Mu) (sz:Nat):List (List AV)→List Value→Prop
 |[],vs=>vs=[]
 |x::xs,vs=>∃us ws,vs=us++ws∧ku μ x us∧us.length=sz∧c4 μ sz xs ws
def bu:Value→Option Nat
 | .pointer (some a)=>some a.block
 | .slice (some a) _ _=>some a.block
 | .map (some b)=>some b
 |_=>none
def jH (v:Value) (b:Nat):Prop:=bu v=some b∨∃us:List Value,v= .tuple us.toArray∧∃u∈us,bu u=some b
structure Qp where
 p:Prop
 lp:List AV→Mu→World→List Value→Prop:=fun _ _ _ _=>False
 mono:∀{xs:List AV} {μ μ':Mu} {w:World} {us:List Value},μ.le μ'→lp xs μ w us→lp xs μ' w us:=by exact fun _ h=>h
 keep:∀{xs:List AV} {μ:Mu} {w w':World} {us:List Value},(∀b,(∃u∈us,bu u=some b)→w'.heap[b]? =w.heap[b]?)→lp xs μ w us→lp xs μ w' us:=by exact fun _ h=>h.elim
instance:CoeSort Qp Prop:=⟨Qp.p⟩
instance:Coe Prop Qp:=⟨fun p=>{ p:=p,mono:=fun _ h=>h,keep:=fun _ h=>h.elim }⟩
structure sq where
 f:Nat→Option Value
 q:Qp
instance:CoeFun sq (fun _=>Nat→Option Value):=⟨sq.f⟩
def LB (L:sq) (b:Nat):Prop:=∃id v,L id=some v∧jH v b
def Fh (n0:Nat) (L:sq) (id b:Nat):Prop:=n0≤b∨∃v,L id=some v∧jH v b
def WY (cN:Array MapEntry) (clock:Nat):Prop:=(∀x∈cN.toList,x.born<clock)∧(cN.toList.map (·.born)).Nodup
def mE (n0:Nat) (L:sq) (μ:Mu) (loc:Nat→Value) (w:World) (id:Nat):Ob→Prop
 | .box t cells=>∃(b:Nat) (vs:List Value),loc id= .pointer (some ⟨b,0,none⟩)∧Fh n0 L id b∧w.heap[b]? =some (.cells vs.toArray t (0,0))∧(∀j,μ b j=none)∧iQ μ loc cells vs∧∀u∈vs,u.oneCell'=true
 | .row e sz xs=>∃vs:List Value,w.ownsRow 0 e sz (loc id) xs.length vs∧c4 μ sz xs vs∧∀g,jH (loc id) g→Fh n0 L id g∧∀j,μ g j=none
 | .mp k e ks es=>∃(b:Nat) (cN:Array MapEntry) (clock:Nat),loc id= .map (some b)∧Fh n0 L id b∧w.heap[b]? =some (.map cN clock)∧(∀j,μ b j=none)∧bV μ ks (cN.toList.map (·.key))∧bV μ es (cN.toList.map (·.val))∧WY cN clock
 | .mr k e sz ks vs=>∃(b:Nat) (cN:Array MapEntry) (clock:Nat) (us:List Value),loc id= .tuple (.map (some b)::us).toArray∧n0≤b∧w.heap[b]? =some (.map cN clock)∧(∀j,μ b j=none)∧
   bV μ ks (cN.toList.map (·.key))∧us.length=vs.length∧cN.size=vs.length∧
   (∀(i:Nat) xs,vs[i]? =some (some xs)→∃(u:Value) (cells:List Value),us[i]? =some u∧(cN.toList.map (·.val))[i]? =some u∧w.ownsRow 0 e sz u xs.length cells∧c4 μ sz xs cells∧∀g,bu u=some g→n0≤g∧∀j,μ g j=none)∧
   (∀i:Nat,vs[i]? =some none→us[i]? =some undef)∧
   (∀(i j:Nat) (u v:Value),us[i]? =some u→us[j]? =some v→i≠j→∀g,bu u=some g→bu v≠some g)
 | .rn e sz k e' sz' xs ys=>∃(m:Value) (us vs:List Value),loc id= .tuple (m::us).toArray∧(∀q,bu m=some q→Fh n0 L id q∧∀j,μ q j=none)∧w.ownsRow 0 e sz m xs.length vs∧c4 μ sz xs vs∧(k<sz∧∀c∈xs,c[k]? =some AV.hole)∧
   us.length=ys.length∧xs.length=ys.length∧
   (∀(i:Nat) zs,ys[i]? =some (some zs)→∃(u:Value) (cells:List Value),us[i]? =some u∧vs[i *sz+k]? =some u∧w.ownsRow 0 e' sz' u zs.length cells∧c4 μ sz' zs cells∧∀g,bu u=some g→Fh n0 L id g∧∀j,μ g j=none)∧
   (∀i:Nat,ys[i]? =some none→us[i]? =some undef)∧
   (∀u∈us,∀g,bu u=some g→bu m≠some g)∧
   (∀(i j:Nat) (u v:Value),us[i]? =some u→us[j]? =some v→i≠j→∀g,bu u=some g→bu v≠some g)
 | .it s pos=>∃b,loc id= .pointer (some ⟨b,0,none⟩)∧Fh n0 L id b∧w.heap[b]? =some (.stringIter ⟨s.toArray⟩ pos)∧∀j,μ b j=none
 | .lp xs=>∃us:List Value,loc id= .tuple us.toArray∧(∀g,jH (loc id) g→Fh n0 L id g∧g<w.heap.size∧∀j,μ g j=none)∧L.q.lp xs μ w us
def Mu.ext (n:Nat) (μ μ':Mu):Prop:=μ.le μ'∧∀b j v,μ' b j=some v→μ b j=some v∨n≤b
structure Rel (N:Nat) (w0:World) (μ0:Mu) (L:sq) (μ:Mu) (loc:Nat→Value) (st:St) (a:Act) (w:World):Prop where
 small:N≤10000
 names:∀id,id<10000→L id=none
 fix:∀id v,L id=some v→id<20000→loc id=v
 size:a.tmps.size=N
 defers:a.defers=[]
 env:∀i sv,st.env i=some sv→∃v,a.tmps[i]? =some v∧gy μ loc sv v
 uI:∀b j v,μ b j=some v→EH w b j=some v
 base:μ0.ext w0.heap.size μ
 obs:∀id o,st.ob id=some o→mE w0.heap.size L μ loc w id o
 apart:∀i j oi oj,st.ob i=some oi→st.ob j=some oj→i≠j→∀g,jH (loc i) g→¬jH (loc j) g
 keep:∀b,b<w0.heap.size→¬LB L b→w.heap[b]? =w0.heap[b]?
 os:w.os=w0.os
 tape:w.tape=w0.tape
 output:w.output=w0.output
 grown:w0.heap.size≤w.heap.size
 drawn:L.q→w0.drawn≤w.drawn
end Go.AM
