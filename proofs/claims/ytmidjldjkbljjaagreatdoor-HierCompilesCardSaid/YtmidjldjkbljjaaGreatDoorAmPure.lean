/- THE ABSTRACT MACHINE. -/
import Derived.Test.YtmidjldjkbljjaaGreatDoorAmDefs
import Derived.Laws.Strings
import Derived.Laws.StructEq
set_option linter.unusedVariables false
namespace Go.AM
abbrev Mu:=Nat→Nat→Option Value
def nU (ks vs:List Value):Value:= .tuple #[.tuple ks.toArray, .tuple vs.toArray]
def Au (w:World) (b j:Nat):Option Value:=
 match w.heap[b]? with
 |some (.cells c _ _)=>(c[j]?).bind fun v=>if v.oneCell'=true then some v else none
 |some (.map es _)=>if j=0 then some (nU (es.toList.map (·.key)) (es.toList.map (·.val))) else none
 |_=>none
theorem tr {w:World} {b j:Nat} {v:Value} (h:Au w b j=some v) (h1:v.oneCell'=true):w.cell? ⟨b,j,none⟩=some v:=by
 unfold Au at h;unfold World.cell?;split at h
 ·rename_i c t q hc
  simp only [hc];obtain ⟨u,hu,h⟩:=Option.bind_eq_some_iff.1 h;split at h
  ·injection h with h;subst h;simpa using hu
  ·cases h
 ·split at h
  ·injection h with h;subst h;simp [nU,Value.oneCell'] at h1
  ·cases h
 ·cases h
theorem mB {w:World} {b j:Nat} {v:Value} (h:w.cell? ⟨b,j,none⟩=some v) (h1:v.oneCell'=true):Au w b j=some v:=by
 unfold World.cell? at h;unfold Au;split at h
 ·rename_i c t q hc
  simp only [hc];have h':c[j]? =some v:=by simpa using h
  simp [h',h1]
 ·cases h
theorem UX {w:World} {b:Nat} {kv ev:List Value} (h:Au w b 0=some (nU kv ev)):∃bK clock,w.heap[b]? =some (.map bK clock)∧kv=bK.toList.map (·.key)∧ev=bK.toList.map (·.val):=by
 unfold Au at h;split at h
 ·obtain ⟨u,hu,h⟩:=Option.bind_eq_some_iff.1 h
  split at h
  ·rename_i h1;injection h with h;subst h;simp [nU,Value.oneCell'] at h1
  ·cases h
 ·rename_i es clock hc
  simp only [if_true,Option.some.injEq,nU,Value.tuple.injEq] at h;have h1:=congrArg Array.toList h;simp only [List.cons.injEq,Value.tuple.injEq,and_true] at h1;have e1:=congrArg Array.toList h1.1;have e2:=congrArg Array.toList h1.2;exact ⟨es,clock,hc,by simpa using e1.symm,by simpa using e2.symm⟩
 ·cases h
theorem Cc {w:World} {b:Nat} {bK:Array MapEntry} {clock:Nat} (h:w.heap[b]? =some (.map bK clock)):Au w b 0=some (nU (bK.toList.map (·.key)) (bK.toList.map (·.val))):=by
 unfold Au;rw [h];simp
theorem tu {w:World} {b j:Nat} {v:Value} (h:Au w b j=some v):b<w.heap.size:=by
 unfold Au at h;split at h
 ·rename_i c t q hc;exact (Array.getElem?_eq_some_iff.1 hc).1
 ·rename_i es cl hc;exact (Array.getElem?_eq_some_iff.1 hc).1
 ·cases h
theorem fT {w w':World} {b:Nat} (h:w'.heap[b]? =w.heap[b]?) (j:Nat):Au w' b j=Au w b j:=by
 unfold Au;rw [h]
mutual
def rep (μ:Mu):AV→Value→Prop
 | .bool b,v=>v= .bool b
 | .int k n,v=>v= .int k n
 | .str s,v=>v= .string ⟨s.toArray⟩
 | .cm sz xs,v=>∃A c,v= .slice A xs.length c∧xs.length≤c∧c≤maxLen∧(xs.length=0∨∃b off,A=some ⟨b,off,none⟩∧fB μ sz b xs off)
 | .agg cs,v=>∃vs:List Value,v= .agg vs.toArray∧bF μ cs vs∧∀u∈vs,u.oneCell'=true
 | .fn f caps,v=>∃vs:List Value,v= .func (.func f) #[] vs.toArray∧bF μ caps vs
 | .fG cs,v=>∃vs:List Value,v= .tuple vs.toArray∧bF μ cs vs
 | .ref cs,v=>∃(b off:Nat) (vs:List Value),v= .pointer (some ⟨b,off,none⟩)∧bF μ cs vs∧(∀u∈vs,u.oneCell'=true)∧∀j u,vs[j]? =some u→μ b (off+j)=some u
 | .self _,_=>False
 | .ri,v=>v= .pointer none
 | .mp ks es,v=>(v= .map none∧ks=[]∧es=[])∨∃(b:Nat) (kv ev:List Value),v= .map (some b)∧bF μ ks kv∧bF μ es ev∧μ b 0=some (nU kv ev)
def bF (μ:Mu):List AV→List Value→Prop
 |[],vs=>vs=[]
 |x::xs,vs=>∃u us,vs=u::us∧rep μ x u∧bF μ xs us
def fB (μ:Mu) (sz b:Nat):List (List AV)→Nat→Prop
 |[],_=>True
 |x::xs,off=>(∃vs:List Value,bF μ x vs∧(∀u∈vs,u.oneCell'=true)∧vs.length=sz∧∀j u,vs[j]? =some u→μ b (off+j)=some u)∧fB μ sz b xs (off+sz)
end
def gB (μ:Mu) (cs:List AV) (vs:List Value):Prop:=bF μ cs vs∧∀u∈vs,u.oneCell'=true
def Mu.le (μ μ':Mu):Prop:=∀b j v,μ b j=some v→μ' b j=some v
theorem Mu.le.refl (μ:Mu):μ.le μ:=fun _ _ _ h=>h
theorem Mu.le.trans {a b c:Mu} (h:a.le b) (k:b.le c):a.le c:=fun x y v hv=>k _ _ _ (h _ _ _ hv)
mutual
theorem tf {μ μ':Mu} (h:μ.le μ'):∀(x:AV) (v:Value),rep μ x v→rep μ' x v
 | .bool b,v=>fun hv=>by simpa [rep] using hv
 | .int k n,v=>fun hv=>by simpa [rep] using hv
 | .str s,v=>fun hv=>by simpa [rep] using hv
 | .cm sz xs,v=>fun hv=>by
  rw [rep] at hv⊢;obtain ⟨A,c,e,h1,h2,h3⟩:=hv;exact ⟨A,c,e,h1,h2,h3.imp id fun ⟨b,off,ea,hr⟩=>⟨b,off,ea,zW h sz b xs off hr⟩⟩
 | .agg cs,v=>fun hv=>by
  rw [rep] at hv⊢;obtain ⟨vs,e,h1,h2⟩:=hv;exact ⟨vs,e,dr h cs vs h1,h2⟩
 | .fn f caps,v=>fun hv=>by
  rw [rep] at hv⊢;obtain ⟨vs,e,h1⟩:=hv;exact ⟨vs,e,dr h caps vs h1⟩
 | .fG cs,v=>fun hv=>by
  rw [rep] at hv⊢;obtain ⟨vs,e,h1⟩:=hv;exact ⟨vs,e,dr h cs vs h1⟩
 | .ref cs,v=>fun hv=>by
  rw [rep] at hv⊢;obtain ⟨b,off,vs,e,h1,h2,h3⟩:=hv;exact ⟨b,off,vs,e,dr h cs vs h1,h2,fun j u hu=>h _ _ _ (h3 j u hu)⟩
 | .self n,v=>fun hv=>by rw [rep] at hv;exact hv.elim
 | .ri,v=>fun hv=>by simpa [rep] using hv
 | .mp ks es,v=>fun hv=>by
  rw [rep] at hv⊢;rcases hv with hv|⟨b,kv,ev,e,h1,h2,h3⟩
  ·exact .inl hv
  ·exact .inr ⟨b,kv,ev,e,dr h ks kv h1,dr h es ev h2,h _ _ _ h3⟩
theorem dr {μ μ':Mu} (h:μ.le μ'):∀(xs:List AV) (vs:List Value),bF μ xs vs→bF μ' xs vs
 |[],vs=>fun hv=>by simpa [bF] using hv
 |x::xs,vs=>fun hv=>by
  rw [bF] at hv⊢;obtain ⟨u,us,e,h1,h2⟩:=hv;exact ⟨u,us,e,tf h x u h1,dr h xs us h2⟩
theorem zW {μ μ':Mu} (h:μ.le μ') (sz b:Nat):∀(xs:List (List AV)) (off:Nat),fB μ sz b xs off→fB μ' sz b xs off
 |[],off=>fun _=>by simp [fB]
 |x::xs,off=>fun hv=>by
  rw [fB] at hv⊢;obtain ⟨⟨vs,h1,h2,h3,h4⟩,h5⟩:=hv;exact ⟨⟨vs,dr h x vs h1,h2,h3,fun j u hu=>h _ _ _ (h4 j u hu)⟩,zW h sz b xs _ h5⟩
end
theorem gB.mono {μ μ':Mu} (h:μ.le μ') {cs:List AV} {vs:List Value} (k:gB μ cs vs):gB μ' cs vs:=⟨dr h _ _ k.1,k.2⟩
section
variable {μ:Mu}
theorem bZ:bF μ [] []:=by simp [bF]
theorem bq {x:AV} {xs:List AV} {v:Value} {vs:List Value} (h:rep μ x v) (k:bF μ xs vs):bF μ (x::xs) (v::vs):=by
 rw [bF];exact ⟨v,vs,rfl,h,k⟩
theorem lS {xs:List AV} {vs:List Value} (h:bF μ xs vs):vs.length=xs.length:=by
 induction xs generalizing vs with
 |nil=>rw [bF] at h;subst h;rfl
 |cons x xs ih=>rw [bF] at h;obtain ⟨u,us,rfl,_,h2⟩:=h;simp [ih h2]
theorem od {xs:List AV} {vs:List Value} (h:bF μ xs vs) {i:Nat} {x:AV} (hx:xs[i]? =some x):∃v,vs[i]? =some v∧rep μ x v:=by
 induction xs generalizing vs i with
 |nil=>simp at hx
 |cons y xs ih=>
  rw [bF] at h;obtain ⟨u,us,rfl,h1,h2⟩:=h;cases i with
  |zero=>simp at hx;subst hx;exact ⟨u,by simp,h1⟩
  |succ i=>simp at hx;obtain ⟨v,hv,hr⟩:=ih h2 hx;exact ⟨v,by simpa using hv,hr⟩
theorem jC {xs ys:List AV} {vs us:List Value} (h:bF μ xs vs) (k:bF μ ys us):bF μ (xs++ys) (vs++us):=by
 induction xs generalizing vs with
 |nil=>rw [bF] at h;subst h;simpa using k
 |cons x xs ih=>
  rw [bF] at h;obtain ⟨u,vs',rfl,h1,h2⟩:=h;exact bq h1 (ih h2)
theorem I9 {xs:List AV} {vs:List Value} (h:bF μ xs vs) (n:Nat):bF μ (xs.drop n) (vs.drop n):=by
 induction n generalizing xs vs with
 |zero=>simpa using h
 |succ n ih=>
  cases xs with
  |nil=>rw [bF] at h;subst h;simp [bF]
  |cons x xs=>rw [bF] at h;obtain ⟨u,us,rfl,_,h2⟩:=h;simpa using ih h2
theorem Ja {xs:List AV} {vs:List Value} (h:bF μ xs vs) (n:Nat):bF μ (xs.take n) (vs.take n):=by
 induction n generalizing xs vs with
 |zero=>simp [bF]
 |succ n ih=>
  cases xs with
  |nil=>rw [bF] at h;subst h;simp [bF]
  |cons x xs=>rw [bF] at h;obtain ⟨u,us,rfl,h1,h2⟩:=h;simpa using bq h1 (ih h2)
theorem gB.drop {cs:List AV} {vs:List Value} (h:gB μ cs vs) (n:Nat):gB μ (cs.drop n) (vs.drop n):=
 ⟨I9 h.1 n,fun u hu=>h.2 u (List.mem_of_mem_drop hu)⟩
theorem gB.take {cs:List AV} {vs:List Value} (h:gB μ cs vs) (n:Nat):gB μ (cs.take n) (vs.take n):=
 ⟨Ja h.1 n,fun u hu=>h.2 u (List.mem_of_mem_take hu)⟩
theorem gB.append {cs ds:List AV} {vs us:List Value} (h:gB μ cs vs) (k:gB μ ds us):gB μ (cs++ds) (vs++us):=
 ⟨jC h.1 k.1,fun u hu=>(List.mem_append.1 hu).elim (h.2 u) (k.2 u)⟩
theorem gB.length {cs:List AV} {vs:List Value} (h:gB μ cs vs):vs.length=cs.length:=lS h.1
theorem ED {x:AV} {v:Value} (h:rep μ x v) (ht:∀vs,x≠ .fG vs):gB μ x.cells v.cells.toList:=by
 cases x with
 |agg cs=>
  rw [rep] at h;obtain ⟨vs,rfl,h1,h2⟩:=h;exact ⟨by simpa [AV.cells,Value.cells] using h1,by simpa [Value.cells] using h2⟩
 |fG vs=>exact absurd rfl (ht vs)
 |cm sz xs=>
  have h':=h;rw [rep] at h';obtain ⟨A,c,rfl,_⟩:=h';exact ⟨bq h bZ,by simp [Value.cells,Value.oneCell']⟩
 |fn f caps=>
  have h':=h;rw [rep] at h';obtain ⟨vs,rfl,_⟩:=h';exact ⟨bq h bZ,by simp [Value.cells,Value.oneCell']⟩
 |ref cs=>
  have h':=h;rw [rep] at h';obtain ⟨b,off,vs,rfl,_⟩:=h';exact ⟨bq h bZ,by simp [Value.cells,Value.oneCell']⟩
 |self n=>rw [rep] at h;exact h.elim
 |ri=>have h':=h;rw [rep] at h';subst h';exact ⟨bq h bZ,by simp [Value.cells,Value.oneCell']⟩
 |mp ks es=>
  have h':=h;rw [rep] at h';rcases h' with ⟨rfl,_⟩|⟨b,kv,ev,rfl,_⟩
  ·exact ⟨bq h bZ,by simp [Value.cells,Value.oneCell']⟩
  ·exact ⟨bq h bZ,by simp [Value.cells,Value.oneCell']⟩
 |bool b=>have h':=h;rw [rep] at h';subst h';exact ⟨bq h bZ,by simp [Value.cells,Value.oneCell']⟩
 |int k n=>have h':=h;rw [rep] at h';subst h';exact ⟨bq h bZ,by simp [Value.cells,Value.oneCell']⟩
 |str s=>have h':=h;rw [rep] at h';subst h';exact ⟨bq h bZ,by simp [Value.cells,Value.oneCell']⟩
theorem B4 {sz b:Nat} {xs:List (List AV)} {off:Nat} (h:fB μ sz b xs off) {i:Nat} {x:List AV} (hx:xs[i]? =some x):
  ∃vs:List Value,gB μ x vs∧vs.length=sz∧∀j u,vs[j]? =some u→μ b (off+(i *sz)+j)=some u:=by
 induction xs generalizing off i with
 |nil=>simp at hx
 |cons y xs ih=>
  rw [fB] at h;obtain ⟨⟨vs,h1,h2,h3,h4⟩,h5⟩:=h;cases i with
  |zero=>simp at hx;subst hx;exact ⟨vs,⟨h1,h2⟩,h3,by simpa using h4⟩
  |succ i=>
   simp at hx;obtain ⟨vs',k1,k2,k3⟩:=ih h5 hx;refine ⟨vs',k1,k2,fun j u hu=> ?_⟩;have:=k3 j u hu
   rwa [show off+sz+i *sz+j=off+(i+1) *sz+j from by rw [Nat.add_mul];omega] at this
theorem Jb {sz b:Nat} {xs:List (List AV)} {off:Nat} (h:fB μ sz b xs off) (n:Nat) (hn:n≤xs.length):fB μ sz b (xs.drop n) (off+n *sz):=by
 induction n generalizing xs off with
 |zero=>simpa using h
 |succ n ih=>
  cases xs with
  |nil=>simp at hn
  |cons x xs=>
   rw [fB] at h;have:=ih h.2 (by simpa using hn);rw [List.drop_succ_cons]
   rwa [show off+(n+1) *sz=off+sz+n *sz from by rw [Nat.add_mul];omega]
theorem Jc {sz b:Nat} {xs:List (List AV)} {off:Nat} (h:fB μ sz b xs off) (n:Nat):fB μ sz b (xs.take n) off:=by
 induction n generalizing xs off with
 |zero=>simp [fB]
 |succ n ih=>
  cases xs with
  |nil=>simp [fB]
  |cons x xs=>rw [List.take_succ_cons];rw [fB] at h⊢;exact ⟨h.1,ih h.2⟩
end
def dR:Value→Value
 | .tuple us=>us.getD 0 undef
 |v=>v
def Yp (μ:Mu) (loc:Nat→Value):ko→Value→Prop
 | .v a,u=>rep μ a u
 | .p id,u=>∃b,loc id= .pointer (some ⟨b,0,none⟩)∧u= .pointer (some ⟨b,0,none⟩)
 | .r id,u=>u=dR (loc id)
def iB (μ:Mu) (loc:Nat→Value):List ko→List Value→Prop
 |[],vs=>vs=[]
 |c::cs,vs=>∃u us,vs=u::us∧Yp μ loc c u∧iB μ loc cs us
def cW (μ:Mu) (loc:Nat→Value):SV→Value→Prop
 | .undef,u=>u=undef
 | .any,_=>True
 | .pv v,u=>rep μ v u
 | .ptr id off,u=>∃b,loc id= .pointer (some ⟨b,0,none⟩)∧u= .pointer (some ⟨b,off,none⟩)
 | .row id,u=>u=dR (loc id)
 | .rp id sz i off,u=>∃g n c,loc id= .slice (some ⟨g,0,none⟩) n c∧u= .pointer (some ⟨g,i *sz+off,none⟩)
 | .sub id sz lo hi,u=>∃A n c A' c',loc id= .slice A n c∧lo≤hi∧hi≤n∧hi-lo≤c'∧u= .slice A' (hi-lo) c'∧(lo=0→A'=A∧c'=c)∧(lo<hi→∃g,A=some ⟨g,0,none⟩∧A'=some ⟨g,lo *sz,none⟩)
 | .cp cs,u=>∃b off vs,u= .pointer (some ⟨b,off,none⟩)∧gB μ cs vs∧∀j v,vs[j]? =some v→μ b (off+j)=some v
 | .cl f caps,u=>∃vs:List Value,u= .func (.func f) #[] vs.toArray∧iB μ loc caps vs
 | .two s b,u=>∃x,u= .tuple #[x, .bool b]∧cW μ loc s x
 | .ag caps,u=>∃vs:List Value,u= .agg vs.toArray∧iB μ loc caps vs∧∀x∈vs,x.oneCell'=true
def eD (μ:Mu) (loc:Nat→Value):List SV→List Value→Prop
 |[],vs=>vs=[]
 |x::xs,vs=>∃u us,vs=u::us∧cW μ loc x u∧eD μ loc xs us
def cG (μ:Mu) (sz:Nat):List (List AV)→List Value→Prop
 |[],vs=>vs=[]
 |x::xs,vs=>∃us ws,vs=us++ws∧gB μ x us∧us.length=sz∧cG μ sz xs ws
def bX:Value→Option Nat
 | .pointer (some a)=>some a.block
 | .slice (some a) _ _=>some a.block
 | .map (some b)=>some b
 |_=>none
def gi (v:Value) (b:Nat):Prop:=bX v=some b∨∃us:List Value,v= .tuple us.toArray∧∃u∈us,bX u=some b
structure lp where
 f:Nat→Option Value
 q:Prop
instance:CoeFun lp (fun _=>Nat→Option Value):=⟨lp.f⟩
def Eh (L:lp) (b:Nat):Prop:=∃id v,L id=some v∧gi v b
def Gi (n0:Nat) (L:lp) (id b:Nat):Prop:=n0≤b∨∃v,L id=some v∧gi v b
def N4 (bK:Array MapEntry) (clock:Nat):Prop:=(∀x∈bK.toList,x.born<clock)∧(bK.toList.map (·.born)).Nodup
def gV (n0:Nat) (L:lp) (μ:Mu) (loc:Nat→Value) (w:World) (id:Nat):Ob→Prop
 | .box t cells=>∃(b:Nat) (vs:List Value),loc id= .pointer (some ⟨b,0,none⟩)∧Gi n0 L id b∧w.heap[b]? =some (.cells vs.toArray t (0,0))∧(∀j,μ b j=none)∧eD μ loc cells vs∧∀u∈vs,u.oneCell'=true
 | .row e sz xs=>∃vs:List Value,w.ownsRow 0 e sz (loc id) xs.length vs∧cG μ sz xs vs∧∀g,gi (loc id) g→Gi n0 L id g∧∀j,μ g j=none
 | .mp k e ks es=>∃(b:Nat) (bK:Array MapEntry) (clock:Nat),loc id= .map (some b)∧Gi n0 L id b∧w.heap[b]? =some (.map bK clock)∧(∀j,μ b j=none)∧bF μ ks (bK.toList.map (·.key))∧bF μ es (bK.toList.map (·.val))∧N4 bK clock
 | .mr k e sz ks vs=>∃(b:Nat) (bK:Array MapEntry) (clock:Nat) (us:List Value),loc id= .tuple (.map (some b)::us).toArray∧n0≤b∧w.heap[b]? =some (.map bK clock)∧(∀j,μ b j=none)∧
   bF μ ks (bK.toList.map (·.key))∧us.length=vs.length∧bK.size=vs.length∧
   (∀(i:Nat) xs,vs[i]? =some (some xs)→∃(u:Value) (cells:List Value),us[i]? =some u∧(bK.toList.map (·.val))[i]? =some u∧w.ownsRow 0 e sz u xs.length cells∧cG μ sz xs cells∧∀g,bX u=some g→n0≤g∧∀j,μ g j=none)∧
   (∀i:Nat,vs[i]? =some none→us[i]? =some undef)∧
   (∀(i j:Nat) (u v:Value),us[i]? =some u→us[j]? =some v→i≠j→∀g,bX u=some g→bX v≠some g)
 | .it s pos=>∃b,loc id= .pointer (some ⟨b,0,none⟩)∧Gi n0 L id b∧w.heap[b]? =some (.stringIter ⟨s.toArray⟩ pos)∧∀j,μ b j=none
def Mu.ext (n:Nat) (μ μ':Mu):Prop:=μ.le μ'∧∀b j v,μ' b j=some v→μ b j=some v∨n≤b
structure Rel (N:Nat) (w0:World) (μ0:Mu) (L:lp) (μ:Mu) (loc:Nat→Value) (st:St) (a:Act) (w:World):Prop where
 small:N≤10000
 names:∀id,id<10000→L id=none
 fix:∀id v,L id=some v→id<20000→loc id=v
 size:a.tmps.size=N
 defers:a.defers=[]
 env:∀i sv,st.env i=some sv→∃v,a.tmps[i]? =some v∧cW μ loc sv v
 r7:∀b j v,μ b j=some v→Au w b j=some v
 base:μ0.ext w0.heap.size μ
 obs:∀id o,st.ob id=some o→gV w0.heap.size L μ loc w id o
 apart:∀i j oi oj,st.ob i=some oi→st.ob j=some oj→i≠j→∀g,gi (loc i) g→¬gi (loc j) g
 keep:∀b,b<w0.heap.size→¬Eh L b→w.heap[b]? =w0.heap[b]?
 os:w.os=w0.os
 tape:w.tape=w0.tape
 output:w.output=w0.output
 grown:w0.heap.size≤w.heap.size
 drawn:L.q→w0.drawn≤w.drawn
end Go.AM
set_option linter.unusedVariables false
set_option linter.unusedSimpArgs false
namespace Go.AM
section
variable {P:Program} {μ:Mu} {loc:Nat→Value} {w:World}
theorem oU {t:TypeId} {v:Value} {x:AV} (h:ofConst P t v=some x):rep μ x v:=by
 unfold ofConst at h;split at h
 ·injection h with h;subst h;simp [rep]
 ·injection h with h;subst h;simp [rep]
 ·injection h with h;subst h;simp [rep]
 ·cases hs:isSlice P t with
  |none=>simp [hs] at h
  |some y=>simp [hs] at h;subst h;rw [rep];exact ⟨none,0,rfl,Nat.le_refl _,Nat.zero_le _, .inl rfl⟩
 ·injection h with h;subst h;simp [rep]
 ·split at h
  ·injection h with h;subst h;rw [rep];exact .inl ⟨rfl,rfl,rfl⟩
  ·cases h
 ·cases h
theorem qd {t:TypeId} {b:Bool} (h:J1 P t=some b) (w:World):(isAgg t).run P w= .ok b w:=by
 unfold J1 at h;unfold isAgg;split at h
 ·rename_i fs hu;injection h with h;subst h;simp [run_underlying hu]
 ·rename_i n e hu;injection h with h;subst h;simp [run_underlying hu]
 ·rename_i d h1 h2 hu
  injection h with h;subst h
  simp only [Sem.run_bind,run_underlying hu,Result.andThen_ok];cases d<;>first|rfl|(exfalso;exact h1 _ rfl)|(exfalso;exact h2 _ _ rfl)|(exfalso;simp_all)
 ·cases h
theorem j9 {t:TypeId} {n:Nat} (h:gC P t=some n) (w:World):(sizeOf t).run P w= .ok n w:=by
 unfold gC at h;cases hi:P.info? t with
 |none=>simp [hi] at h
 |some i=>simp [hi] at h;subst h;simp [sizeOf,typeInfo,hi]
theorem eE {t:TypeId} {e:TypeId} {s:Nat} (h:isSlice P t=some (e,s)):P.underlying t=some (.slice e)∧∃i,P.info? e=some i∧i.size=s:=by
 unfold isSlice at h;split at h
 ·rename_i e' hu
  cases hi:P.info? e' with
  |none=>simp [hi] at h
  |some i=>simp [hi] at h;obtain ⟨rfl,rfl⟩:=h;exact ⟨hu,i,hi,rfl⟩
 ·cases h
theorem add_lit (b off j:Nat):(⟨b,off,none⟩:Addr).add j=⟨b,off+j,none⟩:=by
 unfold Addr.add;split<;>simp_all
theorem add_zero' (p:Addr):p.add 0=p:=by
 unfold Addr.add;split<;>simp_all
theorem kI {t:TypeId} {ad:Addr} {cs:List AV} {vs:List Value} {x:AV} (hx:eB P t cs=some x) (hc:gB μ cs vs)
  (hcell:∀j v,vs[j]? =some v→w.cell? (ad.add j)=some v):∃v,(loadVar t ad).run P w= .ok v w∧rep μ x v:=by
 unfold eB at hx;split at hx
 ·rename_i n ha hs
  split at hx
  ·rename_i hn
   injection hx with hx;subst hx
   have hl:(vs.take n).length=n:=by rw [List.length_take,hc.length];omega
   have hr:=run_loadCells_list (P:=P) w ad (vs.take n) (fun j v hv=>hcell j v (by
    rw [List.getElem?_take] at hv;split at hv
    ·exact hv
    ·cases hv))
   rw [hl] at hr;refine ⟨.agg (vs.take n).toArray,?_,?_⟩
   ·simp [loadVar,qd ha,j9 hs,hr]
   ·rw [rep];exact ⟨_,rfl,(hc.take n).1,(hc.take n).2⟩
  ·cases hx
 ·rename_i n ha hs
  obtain ⟨v,hv,hr⟩:=od hc.1 hx;have h0:=hcell 0 v hv;have:ad.add 0=ad:=by simp [Addr.add]
  rw [this] at h0;exact ⟨v,by simp [loadVar,qd ha,h0],hr⟩
 ·cases hx
theorem B9 {t:TypeId} {cs:List AV} {vs:List Value} {x:AV} (off:Nat) (hx:eB P t (cs.drop off)=some x) (hc:gB μ cs vs):
  ∃v,(part t vs.toArray off).run P w= .ok v w∧rep μ x v:=by
 unfold eB at hx;split at hx
 ·rename_i n ha hs
  split at hx
  ·rename_i hn
   injection hx with hx;subst hx
   refine ⟨.agg ((vs.drop off).take n).toArray,?_,?_⟩
   ·simp [part,qd ha,j9 hs,List.extract_eq_take_drop]
   ·rw [rep];exact ⟨_,rfl,((hc.drop off).take n).1,((hc.drop off).take n).2⟩
  ·cases hx
 ·rename_i n ha hs
  obtain ⟨v,hv,hr⟩:=od (hc.drop off).1 hx;rw [List.getElem?_drop,Nat.add_zero] at hv;exact ⟨v,by simp [part,qd ha,hv],hr⟩
 ·cases hx
theorem EC {xs:List SV} {vs:List Value} (h:eD μ loc xs vs) {i:Nat} {x:SV} (hx:xs[i]? =some x):∃v,vs[i]? =some v∧cW μ loc x v:=by
 induction xs generalizing vs i with
 |nil=>simp at hx
 |cons y xs ih=>
  obtain ⟨u,us,rfl,h1,h2⟩:=h;cases i with
  |zero=>simp at hx;subst hx;exact ⟨u,by simp,h1⟩
  |succ i=>simp at hx;obtain ⟨v,hv,hr⟩:=ih h2 hx;exact ⟨v,by simpa using hv,hr⟩
theorem ja {xs:List SV} {vs:List Value} (h:eD μ loc xs vs):vs.length=xs.length:=by
 induction xs generalizing vs with
 |nil=>exact congrArg List.length h
 |cons x xs ih=>obtain ⟨u,us,rfl,_,h2⟩:=h;simp [ih h2]
theorem vo {xs:List SV} {vs:List Value} (h:eD μ loc xs vs) (n:Nat):eD μ loc (xs.drop n) (vs.drop n):=by
 induction n generalizing xs vs with
 |zero=>simpa using h
 |succ n ih=>
  cases xs with
  |nil=>have:vs=[]:=h;subst this;simp [eD]
  |cons x xs=>obtain ⟨u,us,rfl,_,h2⟩:=h;simpa using ih h2
theorem vp {xs:List SV} {vs:List Value} (h:eD μ loc xs vs) (n:Nat):eD μ loc (xs.take n) (vs.take n):=by
 induction n generalizing xs vs with
 |zero=>simp [eD]
 |succ n ih=>
  cases xs with
  |nil=>have:vs=[]:=h;subst this;simp [eD]
  |cons x xs=>obtain ⟨u,us,rfl,h1,h2⟩:=h;exact ⟨u,us.take n,by simp,h1,ih h2⟩
theorem iZ {xs ys:List SV} {vs us:List Value} (h:eD μ loc xs vs) (k:eD μ loc ys us):eD μ loc (xs++ys) (vs++us):=by
 induction xs generalizing vs with
 |nil=>have:vs=[]:=h;subst this;simpa using k
 |cons x xs ih=>obtain ⟨u,vs',rfl,h1,h2⟩:=h;exact ⟨u,vs'++us,by simp,h1,ih h2⟩
theorem mA {cs:List AV} {vs:List Value} (h:bF μ cs vs):eD μ loc (cs.map .pv) vs:=by
 induction cs generalizing vs with
 |nil=>rw [bF] at h;exact h
 |cons x xs ih=>rw [bF] at h;obtain ⟨u,us,rfl,h1,h2⟩:=h;exact ⟨u,us,rfl,h1,ih h2⟩
theorem zo {xs:List SV} {cs:List AV} {vs:List Value} (h:mP xs=some cs) (k:eD μ loc xs vs):bF μ cs vs:=by
 induction xs generalizing vs cs with
 |nil=>simp [mP] at h;subst h;have:vs=[]:=k;subst this;exact bZ
 |cons x xs ih=>
  cases x with
  |pv v=>
   simp only [mP] at h;cases h':mP xs with
   |none=>simp [h'] at h
   |some ds=>simp [h'] at h;subst h;obtain ⟨u,us,rfl,h1,h2⟩:=k;exact bq h1 (ih h' h2)
  |_=>simp [mP] at h
theorem dh {sz:Nat} {xs:List (List AV)} {vs:List Value} (h:cG μ sz xs vs):vs.length=xs.length *sz:=by
 induction xs generalizing vs with
 |nil=>have:vs=[]:=h;subst this;simp
 |cons x xs ih=>obtain ⟨us,ws,rfl,_,h2,h3⟩:=h;simp [ih h3,h2,Nat.add_mul];omega
theorem Gt {sz:Nat} {xs:List (List AV)} {vs:List Value} (h:cG μ sz xs vs) {i:Nat} {x:List AV} (hx:xs[i]? =some x):
  ∃us:List Value,gB μ x us∧us.length=sz∧∀j u,us[j]? =some u→vs[i *sz+j]? =some u:=by
 induction xs generalizing vs i with
 |nil=>simp at hx
 |cons y xs ih=>
  obtain ⟨us,ws,rfl,h1,h2,h3⟩:=h;cases i with
  |zero=>
   simp at hx;subst hx;refine ⟨us,h1,h2,fun j u hu=> ?_⟩;rw [List.getElem?_append_left (by simpa using (List.getElem?_eq_some_iff.1 hu).1)];simpa using hu
  |succ i=>
   simp at hx;obtain ⟨us',k1,k2,k3⟩:=ih h3 hx;refine ⟨us',k1,k2,fun j u hu=> ?_⟩;rw [List.getElem?_append_right (by rw [h2,Nat.add_mul];omega),h2,show (i+1) *sz+j-sz=i *sz+j from by rw [Nat.add_mul];omega];exact k3 j u hu
end
section
variable {P:Program} {N:Nat} {w0:World} {μ0:Mu} {L:lp} {μ:Mu} {loc:Nat→Value} {st:St} {a:Act} {w:World}
theorem bf (hR:Rel N w0 μ0 L μ loc st a w) {t:TypeId} {x:Operand} {sv:SV} (h:bw P t st x=some sv):cW μ loc sv (a.eval x):=by
 cases x with
 |tmp i=>
  obtain ⟨v,hv,hr⟩:=hR.env i sv h;have:a.eval (.tmp i)=v:=by simp [Act.eval,hv]
  rw [this];exact hr
 |const v=>
  simp only [bw] at h;cases hc:ofConst P t v with
  |none=>simp [hc] at h
  |some y=>simp [hc] at h;subst h;exact oU (P:=P) hc
 |func f=>simp [bw] at h;subst h;show rep μ (.fn f []) _;rw [rep];exact ⟨[],rfl,bZ⟩
 |global g=>simp [bw] at h
theorem cV (hR:Rel N w0 μ0 L μ loc st a w) {t:TypeId} {x:Operand} {v:AV} (h:(bw P t st x).bind eL =some v):rep μ v (a.eval x):=by
 cases ho:bw P t st x with
 |none=>simp [ho] at h
 |some sv=>
  have:=bf hR ho;cases sv<;>simp [ho,eL] at h;subst h;exact this
theorem HG (op:BinOp) (t:TypeId) (X Y:Operand) (k k':IntKind) (n m:Int) (w:World):(eqGuard op t X Y (.int k n) (.int k' m)).run P w= .ok () w:=by
 unfold eqGuard;split<;>rfl
theorem HI (op:BinOp) (t:TypeId) (X Y:Operand) (x y:ByteArray) (w:World):(eqGuard op t X Y (.string x) (.string y)).run P w= .ok () w:=by
 unfold eqGuard;split<;>rfl
theorem Fs (op:BinOp) (t:TypeId) (X Y:Operand) (x y:Bool) (w:World):(eqGuard op t X Y (.bool x) (.bool y)).run P w= .ok () w:=by
 unfold eqGuard;split<;>rfl
theorem run_equalIn_bool (d:Nat) {t:TypeId} (hu:P.underlying t=some .bool) (x y:Bool) (w:World):(Op.equalIn (d+1) t (.bool x) (.bool y)).run P w= .ok (x==y) w:=by
 simp [Op.equalIn,run_underlying hu]
theorem L6 (a b:List UInt8):((⟨a.toArray⟩:ByteArray)==⟨b.toArray⟩)=(a==b):=by
 show (a.toArray==b.toArray)=(a==b)
 simp
theorem OV {t:TypeId} {a:AV} (h:fc P t a=true):J1 P t=some false:=by
 unfold fc at h;unfold J1;split at h
 ·rename_i hu;rw [hu]
 ·rename_i hu;rw [hu]
 ·rename_i hu;rw [hu]
 ·cases h
theorem zn {xs ys:List AV} {vs us:List Value} (hx:gB μ xs vs) (hy:gB μ ys us) (d:Nat):∀{fs:List Field} {b:Bool},DP P xs ys fs=some b→(Op.eqFields (d+1) vs.toArray us.toArray fs).run P w= .ok b w
 |[],b=>fun h=>by simp only [DP,Option.some.injEq] at h;subst h;simp [Op.eqFields]
 |f::fs,b=>fun h=>by
  unfold DP at h;split at h
  ·rename_i ax ay hax hay
   cases hc:(!(f.name== "_")&&fc P f.type ax&&fc P f.type ay&&(gC P f.type).isSome) with
   |false=>simp [hc] at h
   |true=>
    simp only [hc,cond_true] at h;simp only [Bool.and_eq_true,Bool.not_eq_true',beq_eq_false_iff_ne,ne_eq] at hc;obtain ⟨⟨⟨hn,hkx⟩,hky⟩,hsz⟩:=hc;obtain ⟨n,hn'⟩:=Option.isSome_iff_exists.1 hsz;have hag:=OV hkx;have t1:eB P f.type (xs.drop f.offset)=some ax:=by
     unfold eB;rw [hag,hn'];simpa using hax
    have t2:eB P f.type (ys.drop f.offset)=some ay:=by
     unfold eB;rw [hag,hn'];simpa using hay
    obtain ⟨v,hv,rv⟩:=B9 (w:=w) f.offset t1 hx;obtain ⟨u,hu,ru⟩:=B9 (w:=w) f.offset t2 hy;split at h
    ·rename_i r q hr hq
     injection h with h;subst h
     have ih:=zn hx hy d hq;have he:(Op.equalIn (d+1) f.type v u).run P w= .ok r w:=by
      unfold fc at hkx;split at hkx
      ·rename_i t0 s Io
       cases ay<;>simp [nQ] at hr;rw [rep] at rv ru;subst rv;subst ru;subst hr;rw [run_equalIn_string w d f.type _ _ Io];simp [ByteArray.toList_eq]
      ·rename_i q k n Io
       cases ay<;>simp [nQ] at hr;obtain ⟨rfl,rfl⟩:=hr;rw [rep] at rv ru;subst rv;subst ru;rw [run_equalIn_int w d f.type _ _ _ _ Io]
      ·rename_i t0 s Io
       cases ay<;>simp [nQ] at hr;rw [rep] at rv ru;subst rv;subst ru;subst hr;rw [run_equalIn_bool' w d f.type _ _ Io]
      ·cases hkx
     simp only [Op.eqFields,if_pos hn,Sem.run_bind,hv,hu,he,Result.andThen_ok,Sem.run_ite,ih,ne_eq,not_false_eq_true,if_true];cases r<;>simp
    ·cases h
  ·cases h
theorem E9 {op:BinOp} {t:TypeId} {xs ys:List AV} {r:AV} {X Y:Operand} {u v:Value} (h:JZ P op t xs ys=some r) (hx:rep μ (.agg xs) u) (hy:rep μ (.agg ys) v):
  ∃z,(do eqGuard op t X Y u v;binOp op t u v).run P w= .ok z w∧rep μ r z:=by
 rw [rep] at hx hy;obtain ⟨vs,rfl,h1,h2⟩:=hx;obtain ⟨us,rfl,k1,k2⟩:=hy;unfold JZ at h;split at h
 ·rename_i fs hu
  cases hc:(!(P.stoodInHeld t)&& !(P.eqGuardType P.depth t)) with
  |false=>simp [hc] at h
  |true=>
   simp only [hc,cond_true] at h;simp only [Bool.and_eq_true,Bool.not_eq_true'] at hc;have hf:P.fieldsOf t=fs:=by unfold Program.fieldsOf;rw [hu]
   have Ao:P.underlying t=some (.struct (P.fieldsOf t)):=by rw [hf];exact hu
   have heq:∀b,DP P xs ys fs.toList=some b→(Op.equalIn 10000 t (.agg vs.toArray) (.agg us.toArray)).run P w= .ok b w:=fun b hb=>by
    rw [run_equalIn_struct w 9999 t _ _ Ao hc.1,hf];exact zn ⟨h1,h2⟩ ⟨k1,k2⟩ 9998 hb
   simp only [Sem.run_bind,run_eqGuard_agg w op t X Y _ _ hc.2,Result.andThen_ok];split at h
   ·rename_i b hb
    injection h with h;subst h
    exact ⟨.bool b,by simp [binOp,Op.equal,Op.maxDepth,heq b hb],by simp [rep]⟩
   ·rename_i b hb
    injection h with h;subst h
    exact ⟨.bool !b,by simp [binOp,Op.equal,Op.maxDepth,heq b hb],by simp [rep]⟩
   ·cases h
 ·cases h
theorem Oa {op:BinOp} {t:TypeId} {x y r:AV} {X Y:Operand} {u v:Value} (h:bin P op t x y=some r) (hx:rep μ x u) (hy:rep μ y v):
  ∃z,(do eqGuard op t X Y u v;binOp op t u v).run P w= .ok z w∧rep μ r z:=by
 cases x with
 |int k n=>
  cases y with
  |int k' m=>
   rw [rep] at hx hy;subst hx;subst hy;simp only [Sem.run_bind,HG,Result.andThen_ok];unfold bin at h;cases op
   case shl=>
    simp only [tv] at h;split at h
    ·cases h
    ·injection h with h;subst h;rename_i hn;exact ⟨_,by simp [binOp,Op.shift,hn];rfl,by simp [rep]⟩
   case shr=>
    simp only [tv] at h;split at h
    ·cases h
    ·injection h with h;subst h;rename_i hn;exact ⟨_,by simp [binOp,Op.shift,hn];rfl,by simp [rep]⟩
   case quo=>
    simp only [] at h;split at h
    ·rename_i e;subst e
     simp only [yf] at h;split at h
     ·cases h
     ·injection h with h;subst h;rename_i hn;exact ⟨_,by simp [binOp,Op.intDiv,hn];rfl,by simp [rep]⟩
    ·cases h
   case rem=>
    simp only [] at h;split at h
    ·rename_i e;subst e
     simp only [yf] at h;split at h
     ·cases h
     ·injection h with h;subst h;rename_i hn;exact ⟨_,by simp [binOp,Op.intDiv,hn];rfl,by simp [rep]⟩
    ·cases h
   all_goals
    simp only [] at h;split at h
    ·rename_i e;subst e
     simp only [yf,Option.some.injEq] at h;subst h;exact ⟨_,by simp [binOp,Op.intArith,Op.intBits,Op.intCmp];rfl,by simp [rep]⟩
    ·cases h
  |_=>simp [bin] at h
 |str s=>
  cases y with
  |str s'=>
   rw [rep] at hx hy;subst hx;subst hy;simp only [Sem.run_bind,HI,Result.andThen_ok];unfold bin at h;simp only [L5] at h;cases op
   case add=>
    simp only [] at h;split at h
    ·rename_i hl
     injection h with h;subst h
     refine ⟨.string ⟨(s++s').toArray⟩,?_,by simp [rep]⟩;have hn:¬((((⟨s.toArray⟩:ByteArray).size+(⟨s'.toArray⟩:ByteArray).size:Nat):Int)>IntKind.i64.max):=by
      simp [ByteArray.size,IntKind.max,IntKind.signed,IntKind.bits];omega
     have e:(⟨s.toArray⟩:ByteArray)++⟨s'.toArray⟩=⟨(s++s').toArray⟩:=by
      apply ByteArray.ext;simp
     simp only [binOp,Op.stringOp,hn,if_false];rw [e];rfl
    ·cases h
   all_goals first
    |(simp at h;done)
    |(simp only [Option.some.injEq] at h;subst h;exact ⟨_,by simp [binOp,Op.stringOp];rfl,by simp [rep]⟩)
  |_=>simp [bin] at h
 |bool b=>
  cases y with
  |bool c=>
   rw [rep] at hx hy;subst hx;subst hy;simp only [Sem.run_bind,Fs,Result.andThen_ok];unfold bin at h;simp only [] at h;split at h
   ·rename_i hu
    injection h with h;subst h
    exact ⟨.bool (b==c),by simp only [binOp];simp [Op.equal,Op.maxDepth,run_equalIn_bool 9999 hu],by simp [rep]⟩
   ·rename_i hu
    injection h with h;subst h
    exact ⟨.bool !(b==c),by simp only [binOp];simp [Op.equal,Op.maxDepth,run_equalIn_bool 9999 hu],by simp [rep]⟩
   ·cases h
  |_=>simp [bin] at h
 |agg xs=>
  cases y with
  |agg ys=>exact E9 (by simpa [bin] using h) hx hy
  |_=>simp [bin] at h
 |_=>simp [bin] at h
theorem TI {op:UnOp} {x r:AV} {u:Value} (h:un op x=some r) (hx:rep μ x u):∃z,(Op.unary op u).run P w= .ok z w∧rep μ r z:=by
 unfold un at h;split at h
 ·injection h with h;subst h;rw [rep] at hx;subst hx;exact ⟨_,by simp [Op.unary,Op.intArith];rfl,by simp [rep]⟩
 ·injection h with h;subst h;rw [rep] at hx;subst hx;exact ⟨_,by simp [Op.unary];rfl,by simp [rep]⟩
 ·cases h
theorem iG {n0:Nat} {id:Nat} {e:TypeId} {sz:Nat} {xs:List (List AV)} (h:gV n0 L μ loc w id (.row e sz xs)):dR (loc id)=loc id:=by
 obtain ⟨vs,hown,_⟩:=h;rcases hown.2 with ⟨e1,_⟩|⟨g,cap,cur,e1,_⟩<;>rw [e1]<;>rfl
theorem Mt {n0:Nat} {id:Nat} {k e:TypeId} {ks es:List AV} (h:gV n0 L μ loc w id (.mp k e ks es)):dR (loc id)=loc id:=by
 obtain ⟨b,bK,clock,hl,_⟩:=h;rw [hl];rfl
theorem Ah {sz b:Nat} {xs:List (List AV)} {off:Nat} (h:fB μ sz b xs off):∃vs,cG μ sz xs vs∧∀j u,vs[j]? =some u→μ b (off+j)=some u:=by
 induction xs generalizing off with
 |nil=>exact ⟨[],rfl,by simp⟩
 |cons x xs ih=>
  rw [fB] at h;obtain ⟨⟨us,h1,h2,h3,h4⟩,h5⟩:=h;obtain ⟨ws,k1,k2⟩:=ih h5;refine ⟨us++ws,⟨us,ws,rfl,⟨h1,h2⟩,h3,k1⟩,fun j u hu=> ?_⟩;by_cases hj:j<us.length
  ·rw [List.getElem?_append_left hj] at hu;exact h4 j u hu
  ·rw [List.getElem?_append_right (by omega),h3] at hu
   have:=k2 _ u hu
   rwa [show off+sz+(j-sz)=off+j from by omega] at this
theorem kF {sz:Nat} {xs:List (List AV)} {vs:List Value} (h:cG μ sz xs vs):∀u∈vs,u.oneCell'=true:=by
 induction xs generalizing vs with
 |nil=>have:vs=[]:=h;subst this;simp
 |cons x xs ih=>
  obtain ⟨a,b,rfl,h1,h2,h3⟩:=h;intro u hu;rcases List.mem_append.1 hu with hu|hu
  ·exact h1.2 u hu
  ·exact ih h3 u hu
theorem sE (hR:Rel N w0 μ0 L μ loc st a w) {v:SV} {u:Value} {sz:Nat} {xs:List (List AV)} (hel:elems st v=some (sz,xs)) (hv:cW μ loc v u):
  ∃A c,u= .slice A xs.length c∧∃us,cG μ sz xs us∧(xs.length=0∨∃ad:Addr,A=some ad∧∀j x,us[j]? =some x→w.cell? (ad.add j)=some x):=by
 cases v with
 |pv v=>
  cases v with
  |cm s' zs=>
   simp only [elems,Option.some.injEq,Prod.mk.injEq] at hel;obtain ⟨rfl,rfl⟩:=hel;simp only [cW,rep] at hv;obtain ⟨A,c,e1,_,_,h3⟩:=hv;rcases h3 with h0|⟨b,off,rfl,hrow⟩
   ·have:zs=[]:=List.eq_nil_of_length_eq_zero h0
    subst this;exact ⟨A,c,e1,[],rfl, .inl rfl⟩
   ·obtain ⟨us,k1,k2⟩:=Ah hrow
    exact ⟨_,c,e1,us,k1, .inr ⟨_,rfl,fun j u hu=>by rw [add_lit];exact tr (hR.r7 _ _ _ (k2 j u hu)) (kF k1 u (List.mem_of_getElem? hu))⟩⟩
  |_=>simp [elems] at hel
 |row id'=>
  simp only [elems] at hel;split at hel
  ·rename_i e' s' zs ql
   simp only [Option.some.injEq,Prod.mk.injEq] at hel;obtain ⟨rfl,rfl⟩:=hel;have hok:=hR.obs id' _ ql;have hb:=iG hok;obtain ⟨us,Vx,Il,_⟩:=hok;have Dj:u=dR (loc id'):=hv;rw [hb] at Dj;rcases Vx.2 with ⟨e1,e2⟩|⟨g,cap,cur,e1,_⟩
   ·exact ⟨none,0,by rw [Dj,e1,e2],us,Il, .inl e2⟩
   ·exact ⟨_,cap,by rw [Dj,e1],us,Il, .inr ⟨_,rfl,Vx.cells (g:=g) (by rw [e1];rfl)⟩⟩
  ·cases hel
 |_=>simp [elems] at hel
theorem HE (hR:Rel N w0 μ0 L μ loc st a w) {v:SV} {u:Value} {sz:Nat} {xs:List (List AV)} (h:elems st v=some (sz,xs)) (hv:cW μ loc v u):
  ∃A c,u= .slice A xs.length c:=by
 obtain ⟨A,c,e,_⟩:=sE hR h hv;exact ⟨A,c,e⟩
theorem er {r:Nat} {es:Array MapEntry} {clock:Nat} (h:w.heap[r]? =some (.map es clock)):(getObj r).run P w= .ok (.map es clock) w:=by simp [getObj,Sem.run,h]
theorem BH (hR:Rel N w0 μ0 L μ loc st a w) {v:SV} {u:Value} {ks vs:List AV} (h:maps st v=some (ks,vs)) (hv:cW μ loc v u):
  (u= .map none∧ks=[]∧vs=[])∨∃b bK clock,u= .map (some b)∧w.heap[b]? =some (.map bK clock)∧bF μ ks (bK.toList.map (·.key))∧bF μ vs (bK.toList.map (·.val)):=by
 unfold maps at h;split at h
 ·injection h with h;injection h with h1 h2;subst h1;subst h2
  simp only [cW,rep] at hv;rcases hv with hv|⟨b,kv,ev,rfl,h1,h2,h3⟩
  ·exact .inl hv
  ·obtain ⟨bK,clock,hh,rfl,rfl⟩:=UX (hR.r7 _ _ _ h3)
   exact .inr ⟨b,bK,clock,rfl,hh,h1,h2⟩
 ·rename_i id
  cases ho:st.ob id with
  |none=>simp [ho] at h
  |some o=>
   cases o with
   |box t cs=>simp [ho] at h
   |row e s ys=>simp [ho] at h
   |mr k e s ks' vs'=>simp [ho] at h
   |it s n=>simp [ho] at h
   |mp k e ks' vs'=>
    simp only [ho,Option.some.injEq,Prod.mk.injEq] at h;obtain ⟨rfl,rfl⟩:=h;have hb:=Mt (hR.obs id _ ho);obtain ⟨b,bK,clock,hl,_,hh,_,h1,h2,_⟩:=hR.obs id _ ho;simp only [cW] at hv;exact .inr ⟨b,bK,clock,by rw [hv,hb,hl],hh,h1,h2⟩
 ·cases h
def jf (P:Program) (μ:Mu) (loc:Nat→Value) (o:Oper) (sv:SV) (a:Act) (w:World):Prop:=
 ∃v,(execOp a.eval o).run P w= .ok (.value v) w∧cW μ loc sv v
theorem di {o:Oper} {s:Sem Value} {sv:SV} (he:execOp a.eval o=(do pure (.value (←s)))) {v:Value} (hr:s.run P w= .ok v w) (hs:cW μ loc sv v):jf P μ loc o sv a w:=
 ⟨v,by rw [he];simp [hr],hs⟩
section
variable (hR:Rel N w0 μ0 L μ loc st a w)
include hR
theorem u7 {o:Oper} {x:Operand} {sv:SV} (ho:o.op= .move x∨o.op= .assign x) (h:bw P o.type st x=some sv):jf P μ loc o sv a w:=by
 refine ⟨a.eval x,?_,bf hR h⟩;rcases ho with ho|ho<;> · unfold execOp;rw [ho];rfl
theorem Kz {o:Oper} {c x y:Operand} {sv:SV} (ho:o.op= .pick c x y) (h:cR P o st=some sv):jf P μ loc o sv a w:=by
 unfold cR at h;rw [ho] at h;simp only [] at h;split at h
 ·rename_i t hc
  have TQ:=bf hR hc;simp only [cW,rep] at TQ;cases t with
  |true=>
   refine ⟨a.eval x,?_,bf hR h⟩;unfold execOp;rw [ho];simp [TQ,asBool]
  |false=>
   refine ⟨a.eval y,?_,bf hR h⟩;unfold execOp;rw [ho];simp [TQ,asBool]
 ·cases h
theorem OC {o:Oper} {op:BinOp} {t t':TypeId} {x y:Operand} {sv:SV} (ho:o.op= .binOp op t x y t') (h:cR P o st=some sv):jf P μ loc o sv a w:=by
 unfold cR at h;rw [ho] at h;simp only [] at h;split at h
 ·rename_i u v hu hv
  cases hb:bin P op t u v with
  |none=>simp [hb] at h
  |some r=>
   simp [hb] at h;subst h;obtain ⟨z,hz,hr⟩:=Oa (w:=w) (X:=x) (Y:=y) hb (cV hR hu) (cV hR hv);exact di (by unfold execOp;rw [ho]) hz hr
 ·cases h
theorem QX {o:Oper} {op:UnOp} {t:TypeId} {x:Operand} {sv:SV} (ho:o.op= .unOp op t x) (h:cR P o st=some sv):jf P μ loc o sv a w:=by
 unfold cR at h;rw [ho] at h;simp only [] at h;split at h
 ·rename_i u hu
  cases hb:un op u with
  |none=>simp [hb] at h
  |some r=>
   simp [hb] at h;subst h;obtain ⟨z,hz,hr⟩:=TI (P:=P) (w:=w) hb (cV hR hu);exact di (by unfold execOp;rw [ho]) hz hr
 ·cases h
omit hR in
theorem Hl {xs:List (List AV)} {bs:List UInt8} {us:List Value} (h:bytesOf xs=some bs) (hrc:cG μ 1 xs us):∃ns:List Int,us=ns.map (Value.int .u8)∧bs=ns.map fun n=>UInt8.ofNat n.toNat:=by
 induction xs generalizing bs us with
 |nil=>simp only [bytesOf,Option.some.injEq] at h;subst h;have:us=[]:=hrc;subst this;exact ⟨[],rfl,rfl⟩
 |cons x xs ih=>
  obtain ⟨u1,ws,rfl,h1,h2,h3⟩:=hrc;unfold bytesOf at h;split at h
  ·rename_i h0;cases h0
  ·rename_i n l h0
   injection h0 with e1 e2;subst e1;subst e2
   cases hb:bytesOf xs with
   |none=>simp [hb] at h
   |some bs'=>
    simp [hb] at h;subst h;obtain ⟨ns,rfl,rfl⟩:=ih hb h3;have h11:=h1.1;rw [bF] at h11;obtain ⟨y,ys,rfl,hy,hys⟩:=h11;rw [bF] at hys;subst hys;rw [rep] at hy;subst hy;exact ⟨n::ns,by simp,by simp⟩
  ·cases h
omit hR in
theorem foldl_push (ns:List Int):ns.foldl (fun (r:ByteArray) n=>r.push (UInt8.ofNat n.toNat)) ByteArray.empty=⟨(ns.map fun n=>UInt8.ofNat n.toNat).toArray⟩:=by
 have key:∀(ns:List Int) (s:ByteArray),ns.foldl (fun (r:ByteArray) n=>r.push (UInt8.ofNat n.toNat)) s=⟨s.data++(ns.map fun n=>UInt8.ofNat n.toNat).toArray⟩:=by
  intro ns
  induction ns with
  |nil=>intro s;simp
  |cons n ns ih=>intro s;simp only [List.foldl_cons,ih];simp [ByteArray.push]
 rw [key];simp
theorem Dd {o:Oper} {t t':TypeId} {x:Operand} {sv:SV} (ho:o.op= .convert t t' x) (h:cR P o st=some sv):jf P μ loc o sv a w:=by
 unfold cR at h;rw [ho] at h;simp only [] at h;split at h
 ·rename_i e hu hd
  split at h
  ·rename_i xs he hsz hx
   cases hb:bytesOf xs with
   |none=>simp [hb] at h
   |some bs=>
    simp [hb] at h;subst h;obtain ⟨sx,XB,hel⟩:=Option.bind_eq_some_iff.1 hx;obtain ⟨A,c,qW,us,hrc,hsrc⟩:=sE hR hel (bf hR XB);obtain ⟨ns,Eb,hbs⟩:=Hl hb hrc;have yb:=dh hrc;refine di (s:=convert t t' (a.eval x)) (by unfold execOp;rw [ho]) (v:= .string ⟨bs.toArray⟩) ?_ (by simp [cW,rep]);have e1:∀v:Value,(∃A n c,v= .slice A n c)→(convert t t' v).run P w=(Conv.bytesToString v).run P w:=by
     rintro v ⟨A,n,c,rfl⟩
     cases A<;>simp [convert,run_underlying hu,run_underlying hd,run_underlying he]
    rw [qW,e1 _ ⟨_,_,_,rfl⟩];rcases hsrc with h0|⟨ad,rfl,hc⟩
    ·have:us=[]:=List.eq_nil_of_length_eq_zero (by rw [yb,h0])
     subst this;have hn0:ns=[]:=by cases ns with
      |nil=>rfl
      |cons=>simp at Eb
     subst hn0;have hbs:bs=[]:=hbs;subst hbs;rw [h0];cases A with
     |none=>rfl
     |some ad=>
      have:=run_bytesToString (P:=P) w ad 0 c [] (by simpa using run_loadCells_list (P:=P) w ad [] (by simp));rw [this];rfl
    ·have hl:=run_loadCells_list (P:=P) w ad us hc
     have hlen:us.length=xs.length:=by rw [yb];simp
     rw [hlen,Eb] at hl;rw [run_bytesToString w ad xs.length c ns hl,hbs,foldl_push]
  ·cases h
 ·rename_i d k hu hd
  split at h
  ·rename_i k' n hx
   injection h with h;subst h
   have hv:=cV hR hx;rw [rep] at hv;refine di (s:=convert t t' (a.eval x)) (by unfold execOp;rw [ho]) (v:= .int k (k.wrap n)) ?_ (by simp [cW,rep]);rw [hv];simp [convert,run_underlying hu,run_underlying hd,Conv.intToInt]
  ·cases h
 ·rename_i d hne hu hd
  split at h
  ·rename_i s hx
   injection h with h;subst h
   have hv:=cV hR hx;rw [rep] at hv;refine di (s:=convert t t' (a.eval x)) (by unfold execOp;rw [ho]) (v:= .string ⟨s.toArray⟩) ?_ (by simp [cW,rep]);rw [hv];simp [convert,run_underlying hu,run_underlying hd]
  ·cases h
 ·cases h
theorem r5 {b:Bool} {acc r:AV} {l:List Operand} {u:Value} (h:eW P st b acc l=some r) (hu:rep μ acc u):
  ∃v,((l.map a.eval).foldlM (if b then Builtin.max2 else Builtin.min2) u).run P w= .ok v w∧rep μ r v:=by
 induction l generalizing acc u with
 |nil=>simp only [eW,Option.some.injEq] at h;subst h;exact ⟨u,rfl,hu⟩
 |cons x l ih=>
  simp only [eW] at h;split at h
  ·rename_i v hv
   split at h
   ·rename_i r' hr'
    have hx:=cV hR hv;unfold LG at hr';split at hr'
    ·rename_i k n k' m
     split at hr'
     ·rename_i e;subst e
      injection hr' with hr';subst hr'
      rw [rep] at hu hx;subst hu;obtain ⟨z,hz,Rv⟩:=ih h (u:= .int k (if b=true then if m>n then m else n else if m<n then m else n)) (by simp [rep]);refine ⟨z,?_,Rv⟩;rw [←hz];simp only [List.map_cons,List.foldlM_cons,Sem.run_bind,hx];cases b<;>simp [Builtin.max2,Builtin.min2]
     ·cases hr'
    ·rename_i s1 s2
     injection hr' with hr';subst hr'
     rw [rep] at hu hx;subst hu;obtain ⟨z,hz,Rv⟩:=ih h (u:= .string ⟨(bif b then (bif !(Op.bytesLess s1 s2) then s1 else s2) else (bif Op.bytesLess s1 s2||s1==s2 then s1 else s2)).toArray⟩) (by simp [rep]);refine ⟨z,?_,Rv⟩;rw [←hz];simp only [List.map_cons,List.foldlM_cons,Sem.run_bind,hx];cases b with
     |true=>
      cases hc:Op.bytesLess s1 s2<;>simp [Builtin.max2,Op.stringOp,asBool,hc]
     |false=>
      cases hc:Op.bytesLess s1 s2<;>cases hq:s1==s2<;>simp_all [Builtin.min2,Op.stringOp,asBool,L6]
    ·cases hr'
   ·cases h
  ·cases h
theorem zB {o:Oper} {c:Call} {sv:SV} (ho:o.op= .call c) (h:r6 P c st=some sv):jf P μ loc o sv a w:=by
 obtain ⟨callee,⟨args⟩,⟨argTypes⟩⟩:=c;unfold r6 at h;simp only [] at h;split at h
 ·rename_i x
  split at h
  ·rename_i t
   split at h
   ·rename_i s hu hx
    injection h with h;subst h
    have hv:=bf hR hx;simp only [cW,rep] at hv;refine ⟨.int .i64 s.length,?_,by simp [cW,rep]⟩;have hsz:(⟨s.toArray⟩:ByteArray).size=s.length:=by simp [ByteArray.size]
    unfold execOp;rw [ho];simp [resolve,invoke,builtin,Builtin.len_,run_underlying hu,hv,goInt,hsz]
   ·rename_i e id sz lo hi hu hx
    injection h with h;subst h
    obtain ⟨A,n,c,A',c',_,hlo,hhi,_,hv,_⟩:=bf hR hx;refine ⟨.int .i64 ((hi-lo:Nat):Int),?_,by simp [cW,rep]⟩;unfold execOp;rw [ho];simp [resolve,invoke,builtin,Builtin.len_,run_underlying hu,hv,goInt]
   ·rename_i e v _ hu hx
    cases he:elems st v with
    |none=>simp [he] at h
    |some y=>
     obtain ⟨sz,xs⟩:=y;simp [he] at h;subst h;obtain ⟨A,c,hv⟩:=HE hR he (bf hR hx);refine ⟨.int .i64 xs.length,?_,by simp [cW,rep]⟩;unfold execOp;rw [ho];simp [resolve,invoke,builtin,Builtin.len_,run_underlying hu,hv,goInt]
   ·rename_i kt et v hu hx
    cases he:maps st v with
    |none=>simp [he] at h
    |some y=>
     obtain ⟨ks,vs⟩:=y;simp [he] at h;subst h;refine ⟨.int .i64 ks.length,?_,by simp [cW,rep]⟩;unfold execOp;rw [ho];rcases BH hR he (bf hR hx) with ⟨hv,rfl,rfl⟩|⟨b,bK,clock,hv,hh,h1,h2⟩
     ·simp [resolve,invoke,builtin,Builtin.len_,run_underlying hu,hv,goInt]
     ·have hlen:bK.size=ks.length:=by simpa using lS h1
      simp [resolve,invoke,builtin,Builtin.len_,run_underlying hu,hv,goInt,er hh,hlen]
   ·cases h
  ·cases h
 ·rename_i x l
  split at h
  ·rename_i v hv
   cases hm:eW P st true v l with
   |none=>simp [hm] at h
   |some r=>
    simp [hm] at h;subst h;obtain ⟨z,hz,Rv⟩:=r5 hR hm (cV hR hv);refine ⟨z,?_,Rv⟩;unfold execOp;rw [ho];simp only [if_true] at hz;simp [resolve,invoke,builtin,Builtin.max_,hz]
  ·cases h
 ·rename_i x l
  split at h
  ·rename_i v hv
   cases hm:eW P st false v l with
   |none=>simp [hm] at h
   |some r=>
    simp [hm] at h;subst h;obtain ⟨z,hz,Rv⟩:=r5 hR hm (cV hR hv);refine ⟨z,?_,Rv⟩;unfold execOp;rw [ho];simp at hz;simp [resolve,invoke,builtin,Builtin.min_,hz]
  ·cases h
 ·cases h
omit hR in
theorem zy {t:TypeId} {f:Nat} {fd:Field} (h:oK P t f=some fd):∃fs,P.underlying t=some (.struct fs)∧fs[f]? =some fd:=by
 unfold oK at h;split at h
 ·rename_i fs hu;exact ⟨fs,hu,h⟩
 ·cases h
theorem Aj {o:Oper} {t:TypeId} {x:Operand} {f:Nat} {sv:SV} (ho:o.op= .fieldAddr t x f) (h:cR P o st=some sv):jf P μ loc o sv a w:=by
 unfold cR at h;rw [ho] at h;simp only [] at h;split at h
 ·rename_i fd hf
  obtain ⟨fs,hu,OH⟩:=zy hf;split at h
  ·cases h
  ·rename_i n hn0 hs
   have hn:n≠0:=fun e=>hn0 e
   have run:∀ad:Addr,(Instr.fieldAt t (.pointer (some ad)) f).run P w= .ok (.pointer (some (ad.add fd.offset))) w:=fun ad=>by
    simp [Instr.fieldAt,run_underlying hu,OH,Instr.sureAddr,fieldPlace,j9 hs,hn]
   split at h
   ·rename_i id off hx
    injection h with h;subst h
    obtain ⟨b,hl,hv⟩:=bf hR hx;refine di (s:=Instr.fieldAt t (a.eval x) f) (by unfold execOp;rw [ho]) (by rw [hv];exact run _) ?_;exact ⟨b,hl,by rw [add_lit]⟩
   ·rename_i cs hx
    injection h with h;subst h
    obtain ⟨b,off,vs,hv,hc,hm⟩:=bf hR hx;refine di (s:=Instr.fieldAt t (a.eval x) f) (by unfold execOp;rw [ho]) (by rw [hv];exact run _) ?_;refine ⟨b,off+fd.offset,vs.drop fd.offset,by rw [add_lit],hc.drop _,fun j v hj=> ?_⟩;rw [List.getElem?_drop] at hj;rw [Nat.add_assoc];exact hm _ _ hj
   ·rename_i cs hx
    injection h with h;subst h
    have hx':=bf hR hx;simp only [cW,rep] at hx';obtain ⟨b,off,vs,hv,hc1,Dh,hm⟩:=hx';have hc:gB μ cs vs:=⟨hc1,Dh⟩
    refine di (s:=Instr.fieldAt t (a.eval x) f) (by unfold execOp;rw [ho]) (by rw [hv];exact run _) ?_;refine ⟨b,off+fd.offset,vs.drop fd.offset,by rw [add_lit],hc.drop _,fun j v hj=> ?_⟩;rw [List.getElem?_drop] at hj;rw [Nat.add_assoc];exact hm _ _ hj
   ·rename_i id sz i off hx
    injection h with h;subst h
    obtain ⟨g,n',c,hl,hv⟩:=bf hR hx;refine di (s:=Instr.fieldAt t (a.eval x) f) (by unfold execOp;rw [ho]) (by rw [hv];exact run _) ?_;exact ⟨g,n',c,hl,by rw [add_lit,Nat.add_assoc]⟩
   ·cases h
  ·cases h
 ·cases h
theorem Bl {o:Oper} {x:Operand} {sv:SV} (ho:o.op= .nilCheck x) (h:cR P o st=some sv):jf P μ loc o sv a w:=by
 unfold cR at h;simp only [ho] at h;have hs:bw P 0 st x=some sv∧∃p,a.eval x= .pointer (some p):=by
  split at h
  ·rename_i id off hx;injection h with h;subst h
   have:=bf hR hx;rw [cW] at this;obtain ⟨b,_,e⟩:=this;exact ⟨hx,_,e⟩
  ·rename_i cs hx;injection h with h;subst h
   have:=bf hR hx;rw [cW] at this;obtain ⟨b,off,vs,e,_⟩:=this;exact ⟨hx,_,e⟩
  ·rename_i cs hx;injection h with h;subst h
   have:=bf hR hx;rw [cW,rep] at this;obtain ⟨b,off,vs,e,_⟩:=this;exact ⟨hx,_,e⟩
  ·rename_i id sz i off hx;injection h with h;subst h
   have:=bf hR hx;rw [cW] at this;obtain ⟨b,n,c,_,e⟩:=this;exact ⟨hx,_,e⟩
  ·cases h
 obtain ⟨hx,p,he⟩:=hs;refine di (s:=pure (a.eval x)) ?_ (v:=a.eval x) rfl (bf hR hx);simp [execOp,ho,he]
theorem H9 {o:Oper} {t:TypeId} {x:Operand} {f:Nat} {sv:SV} (ho:o.op= .field t x f) (h:cR P o st=some sv):jf P μ loc o sv a w:=by
 unfold cR at h;rw [ho] at h;simp only [] at h;split at h
 ·rename_i fd cs hf hx
  obtain ⟨fs,hu,OH⟩:=zy hf;cases hT:eB P fd.type (cs.drop fd.offset) with
  |none=>simp [hT] at h
  |some y=>
   simp [hT] at h;subst h;have hv:=cV hR hx;rw [rep] at hv;obtain ⟨vs,hv,h1,h2⟩:=hv;obtain ⟨v,hr,qV⟩:=B9 (w:=w) fd.offset hT ⟨h1,h2⟩;refine di (s:=Instr.field t (a.eval x) f) (by unfold execOp;rw [ho]) (v:=v) ?_ qV;rw [hv];simp [Instr.field,run_underlying hu,OH,asAgg,hr]
 ·cases h
theorem Ak {o:Oper} {t:TypeId} {x ix:Operand} {sv:SV} (ho:o.op= .indexAddr t x ix) (h:cR P o st=some sv):jf P μ loc o sv a w:=by
 unfold cR at h;rw [ho] at h;simp only [] at h;split at h
 ·rename_i n e hu
  unfold yd at h;split at h
  ·rename_i s id off k i hsz hx hi
   split at h
   ·rename_i hc
    obtain ⟨h0,hlt,hpos⟩:=hc;injection h with h;subst h
    have hiv:=bf hR hi;simp only [cW,rep] at hiv;obtain ⟨b,hl,hv⟩:=bf hR hx;refine di (s:=Instr.indexAt t (a.eval x) (a.eval ix)) (by unfold execOp;rw [ho]) (v:= .pointer (some ((⟨b,off,none⟩:Addr).add (i.toNat *s)))) ?_ ?_
    ·rw [hv,hiv]
     have:=j9 hsz w;simp [Instr.indexAt,asIntOf,run_underlying hu,Instr.sureAddr,h0,hlt,this]
    ·exact ⟨b,hl,by rw [add_lit]⟩
   ·cases h
  ·cases h
 unfold wm at h;split at h
 ·rename_i e s sz xs k i hs hx hi
  obtain ⟨hu,inf,kj,hsz⟩:=eE hs;split at h
  ·rename_i hc
   obtain ⟨rfl,h0⟩:=hc;cases hg:xs[i.toNat]? with
   |none=>simp [hg] at h
   |some y=>
    simp [hg] at h;subst h;have hlt:i.toNat<xs.length:=(List.getElem?_eq_some_iff.1 hg).1;have hv:=bf hR hx;have hiv:=bf hR hi;simp only [cW,rep] at hv hiv;obtain ⟨A,c,hv,hlc,hcm,hrow⟩:=hv;rcases hrow with hz|⟨b,off,rfl,hrow⟩
    ·omega
    ·obtain ⟨vs,hc1,Dh,hc3⟩:=B4 hrow hg
     refine di (s:=Instr.indexAt t (a.eval x) (a.eval ix)) (by unfold execOp;rw [ho]) (v:= .pointer (some ((⟨b,off,none⟩:Addr).add (i.toNat *s)))) ?_ ?_
     ·rw [hv,hiv]
      have hlt':i<(xs.length:Int):=by omega
      simp [Instr.indexAt,asIntOf,run_underlying hu,h0,hlt',sizeOf,typeInfo,kj,hsz]
     ·refine ⟨b,off+i.toNat *s,vs,by rw [add_lit],hc1,hc3⟩
  ·cases h
 ·rename_i e s id k i hs hx hi
  obtain ⟨hu,inf,kj,hsz⟩:=eE hs;split at h
  ·rename_i e' sz xs cU
   split at h
   ·rename_i hc
    obtain ⟨rfl,h0,hlt⟩:=hc;injection h with h;subst h
    have hv:=bf hR hx;have hiv:=bf hR hi;simp only [cW,rep] at hv hiv;rw [iG (hR.obs id _ cU)] at hv;obtain ⟨vs,hown,hrc,_⟩:=hR.obs id _ cU;obtain ⟨g,cap,mG,_⟩:∃g cap,loc id= .slice (some ⟨g,0,none⟩) xs.length cap∧True:=by
     rcases hown.2 with ⟨_,e2⟩|⟨g,cap,cur,e1,_⟩
     ·omega
     ·exact ⟨g,cap,e1,trivial⟩
    refine di (s:=Instr.indexAt t (a.eval x) (a.eval ix)) (by unfold execOp;rw [ho]) (v:= .pointer (some ((⟨g,0,none⟩:Addr).add (i.toNat *s)))) ?_ ?_
    ·rw [hv,hiv,mG]
     have hlt':i<(xs.length:Int):=by omega
     simp [Instr.indexAt,asIntOf,run_underlying hu,h0,hlt',sizeOf,typeInfo,kj,hsz]
    ·exact ⟨g,_,cap,mG,by rw [add_lit];simp⟩
   ·cases h
  ·cases h
 ·rename_i e s id sz lo hi' k i hs hx hi
  obtain ⟨hu,inf,kj,hsz⟩:=eE hs;split at h
  ·rename_i hc
   obtain ⟨rfl,h0,hlt⟩:=hc;injection h with h;subst h
   have hiv:=bf hR hi;simp only [cW,rep] at hiv;obtain ⟨A,n,c,A',c',mG,hlo,hhi,rV,hv,_,hg⟩:=bf hR hx;obtain ⟨g,rfl,rfl⟩:=hg (by omega);refine di (s:=Instr.indexAt t (a.eval x) (a.eval ix)) (by unfold execOp;rw [ho]) (v:= .pointer (some ((⟨g,lo *s,none⟩:Addr).add (i.toNat *s)))) ?_ ?_
   ·rw [hv,hiv]
    have hlt':i<((hi'-lo:Nat):Int):=by omega
    simp only [Instr.indexAt,asIntOf,Sem.run_bind,run_underlying hu,Sem.run_pure,Result.andThen_ok];simp [h0,hlt',sizeOf,typeInfo,kj,hsz]
   ·exact ⟨g,_,c,mG,by rw [add_lit];simp [Nat.add_mul]⟩
  ·cases h
 ·cases h
theorem Ia {o:Oper} {t:TypeId} {x ix:Operand} {sv:SV} (ho:o.op= .index t x ix) (h:cR P o st=some sv):jf P μ loc o sv a w:=by
 unfold cR at h;rw [ho] at h;simp only [] at h;split at h
 ·rename_i s k i hu hx hi
  split at h
  ·rename_i h0
   cases hg:s[i.toNat]? with
   |none=>simp [hg] at h
   |some b=>
    simp [hg] at h;subst h;have hv:=bf hR hx;have hiv:=bf hR hi;simp only [cW,rep] at hv hiv;refine di (s:=Instr.index t (a.eval x) (a.eval ix)) (by unfold execOp;rw [ho]) (v:= .int .u8 b.toNat) ?_ (by simp [cW,rep]);rw [hv,hiv];have hlt:=(List.getElem?_eq_some_iff.1 hg)
    obtain ⟨hl,hb⟩:=hlt;have:(⟨s.toArray⟩:ByteArray)[i.toNat]? =some b:=by
     have hl':i.toNat<(⟨s.toArray⟩:ByteArray).size:=by simpa [ByteArray.size] using hl
     rw [getElem?_pos (⟨s.toArray⟩:ByteArray) i.toNat hl'];show some s.toArray[i.toNat]=some b;simp [hb]
    simp [Instr.index,asIntOf,run_underlying hu,h0,this]
  ·cases h
 ·cases h
theorem Ky {o:Oper} {t:TypeId} {x:Operand} {sv:SV} (ho:o.op= .load t x) (h:cR P o st=some sv):jf P μ loc o sv a w:=by
 have start:∀(ad:Addr),a.eval x= .pointer (some ad)→∀v,(loadVar t ad).run P w= .ok v w→∀sv,cW μ loc sv v→jf P μ loc o sv a w:=fun ad hv v hr sv hs=>
  di (s:=Instr.loadAt t (a.eval x)) (by unfold execOp;rw [ho]) (v:=v) (by rw [hv];simp [Instr.loadAt,Instr.sureAddr,hr]) hs
 unfold cR at h;rw [ho] at h;simp only [] at h;split at h
 ·rename_i cs hx
  cases hT:eB P t cs with
  |none=>simp [hT] at h
  |some y=>
   simp [hT] at h;subst h;obtain ⟨b,off,vs,hv,hc,hm⟩:=bf hR hx;obtain ⟨v,hr,qV⟩:=kI (w:=w) (ad:=⟨b,off,none⟩) hT hc (fun j u hu=>by rw [add_lit];exact tr (hR.r7 _ _ _ (hm j u hu)) (hc.2 u (List.mem_of_getElem? hu)));exact start _ hv v hr _ qV
 ·rename_i cs hx
  cases hT:eB P t cs with
  |none=>simp [hT] at h
  |some y=>
   simp [hT] at h;subst h;have hx':=bf hR hx;simp only [cW,rep] at hx';obtain ⟨b,off,vs,hv,hc1,Dh,hm⟩:=hx';have hc:gB μ cs vs:=⟨hc1,Dh⟩
   obtain ⟨v,hr,qV⟩:=kI (w:=w) (ad:=⟨b,off,none⟩) hT hc (fun j u hu=>by rw [add_lit];exact tr (hR.r7 _ _ _ (hm j u hu)) (hc.2 u (List.mem_of_getElem? hu)));exact start _ hv v hr _ qV
 ·rename_i id sz i off hx
  split at h
  ·rename_i e sz' xs cU
   split at h
   ·rename_i hsz;subst hsz
    cases hg:xs[i]? with
    |none=>simp [hg] at h
    |some c=>
     cases hT:eB P t (c.drop off) with
     |none=>simp [hg,hT] at h
     |some y=>
      simp [hg,hT] at h;subst h;obtain ⟨g,n,cp,hl,hv⟩:=bf hR hx;obtain ⟨vs,hown,hrc,_⟩:=hR.obs id _ cU;obtain ⟨us,hc1,Dh,hc3⟩:=Gt hrc hg;have hcells:=hown.cells (g:=g) (by rw [hl];rfl)
      obtain ⟨v,hr,qV⟩:=kI (w:=w) (ad:=⟨g,i *sz+off,none⟩) hT (hc1.drop off) (fun j u hu=>by
       rw [List.getElem?_drop] at hu;have:=hcells _ _ (hc3 _ _ hu);rw [add_lit] at this⊢
       rwa [show 0+(i *sz+(off+j))=i *sz+off+j from by omega] at this)
      exact start _ hv v hr _ qV
   ·cases h
  ·cases h
 ·rename_i id off hx
  obtain ⟨b,hl,hv⟩:=bf hR hx;split at h
  ·rename_i bt cells cU
   obtain ⟨b',vs,hl',hnF,hheap,qk,hss,h1⟩:=hR.obs id _ cU;rw [hl] at hl';simp only [Value.pointer.injEq,Option.some.injEq,Addr.mk.injEq,and_true] at hl';subst hl';have hcell:∀j,w.cell? ⟨b,j,none⟩=vs[j]? :=fun j=>by rw [cell_of_row w b j vs.toArray bt (0,0) hheap];simp
   split at h
   ·rename_i hagg
    split at h
    ·obtain ⟨v,KL,hr⟩:=EC hss h
     refine start _ hv v ?_ _ hr;simp [loadVar,qd hagg,hcell,KL]
    ·cases h
   ·rename_i hagg
    split at h
    ·rename_i n hsz
     split at h
     ·rename_i hle
      cases hp:mP ((cells.drop off).take n) with
      |none=>simp [hp] at h
      |some cs=>
       simp [hp] at h;subst h;have hss':=vp (vo hss off) n;have hlen:=ja hss;have PE:((vs.drop off).take n).length=n:=by simp;omega
       have hr:=run_loadCells_list (P:=P) w ⟨b,off,none⟩ ((vs.drop off).take n) (fun j v hj=>by
        rw [add_lit,hcell];rw [List.getElem?_take] at hj;split at hj
        ·rwa [List.getElem?_drop] at hj
        ·cases hj)
       rw [PE] at hr;refine start _ hv (.agg ((vs.drop off).take n).toArray) ?_ _ ?_
       ·simp [loadVar,qd hagg,j9 hsz,hr]
       ·show rep μ (.agg cs) _
        rw [rep];exact ⟨_,rfl,zo hp hss',fun u hu=>h1 u (List.mem_of_mem_drop (List.mem_of_mem_take hu))⟩
     ·cases h
    ·cases h
   ·cases h
  ·cases h
 ·cases h
theorem eO {lo:Option Operand} {lv:Option SV} {d y r:Nat} (hl:fR P st lo=some lv) (h:dW lv d y=some r) (code:BoundsCode):
  (lo=none∧r=d)∨∃x,lo=some x∧(Instr.sliceBound (a.eval x) y code).run P w= .ok r w∧r≤y:=by
 cases lo with
 |none=>
  simp only [fR,Option.some.injEq] at hl;subst hl;simp only [dW,Option.some.injEq] at h;exact .inl ⟨rfl,h.symm⟩
 |some x=>
  simp only [fR] at hl;cases hx:bw P 0 st x with
  |none=>simp [hx] at hl
  |some sv=>
   simp [hx] at hl;subst hl;have hv:=bf hR hx;cases sv with
   |pv v=>
    cases v with
    |int k i=>
     simp only [dW] at h;split at h
     ·rename_i hc
      injection h with h;subst h
      simp only [cW,rep] at hv;refine .inr ⟨x,rfl,?_,by omega⟩;rw [hv];simp [Instr.sliceBound,asIntOf,hc]
     ·cases h
    |_=>simp [dW] at h
   |_=>simp [dW] at h
omit hR in
theorem vU (s:List UInt8) (l h:Nat) (hl:l≤h) (hh:h≤s.length):(⟨s.toArray⟩:ByteArray).extract l h=⟨((s.take h).drop l).toArray⟩:=by
 apply ByteArray.ext;simp [ByteArray.data_extract,List.extract_eq_take_drop,List.drop_take]
theorem Gu {t e:TypeId} {s:Nat} {x:Operand} {lo hi:Option Operand} {lv hv:Option SV} {A:Option Addr} {m c hh l:Nat} (hu:P.underlying t=some (.slice e)) (hsz:gC P e=some s) (qW:a.eval x= .slice A m c) (hlc:m≤c)
  (hlo:fR P st lo=some lv) (hhi:fR P st hi=some hv) (Ax:dW hv m m=some hh) (tV:dW lv 0 hh=some l):
  (Instr.sliceAt t (a.eval x) (lo.map a.eval) (hi.map a.eval) none).run P w= .ok (.slice (if c=l then A else A.map (·.add (l *s))) (hh-l) (c-l)) w:=by
 obtain ⟨inf,kj,hs⟩:∃i,P.info? e=some i∧i.size=s:=by
  unfold gC at hsz;cases hi:P.info? e with
  |none=>simp [hi] at hsz
  |some i=>exact ⟨i,rfl,by simpa [hi] using hsz⟩
 have hcap:hh≤m:=by
  rcases eO hR hhi Ax .sliceAcap with ⟨_,e⟩|⟨_,_,_,e⟩<;>omega
 have YL:l≤hh:=by
  rcases eO hR hlo tV .sliceB with ⟨_,e⟩|⟨_,_,_,e⟩<;>omega
 have hhi':hi=none∧hh=m∨∃y,hi=some y∧(Instr.sliceBound (a.eval y) c .sliceAcap).run P w= .ok hh w:=by
  cases hi with
  |none=>
   rcases eO hR hhi Ax .sliceAcap with ⟨_,e⟩|⟨_,e,_⟩
   ·exact .inl ⟨rfl,e⟩
   ·cases e
  |some y=>
   refine .inr ⟨y,rfl,?_⟩;simp only [fR] at hhi;cases hy:bw P 0 st y with
   |none=>simp [hy] at hhi
   |some sv'=>
    simp [hy] at hhi;subst hhi;have Dj:=bf hR hy;cases sv' with
    |pv v=>
     cases v with
     |int k i=>
      simp only [dW] at Ax;split at Ax
      ·rename_i hc
       injection Ax with Ax;subst Ax
       simp only [cW,rep] at Dj;rw [Dj];have:i≤(c:Int):=by omega
       simp [Instr.sliceBound,asIntOf,hc.1,this]
      ·cases Ax
     |_=>simp [dW] at Ax
    |_=>simp [dW] at Ax
 rw [qW];rcases hhi' with ⟨rfl,rfl⟩|⟨xh,rfl,rh⟩<;>
 rcases eO hR hlo tV .sliceB with ⟨rfl,rfl⟩|⟨xl,rfl,rl,_⟩<;>
 simp [Instr.sliceAt,Instr.slice,run_underlying hu,Instr.sliceBounds,sizeOf,typeInfo,kj, *]
theorem DT {lo hi:Option Operand} {lv hv:Option SV} {m hh l:Nat} (hlo:fR P st lo=some lv) (hhi:fR P st hi=some hv) (Ax:dW hv m m=some hh) (tV:dW lv 0 hh=some l):hh≤m∧l≤hh:=by
 constructor
 ·rcases eO hR hhi Ax .sliceAcap with ⟨_,e⟩|⟨_,_,_,e⟩<;>omega
 ·rcases eO hR hlo tV .sliceB with ⟨_,e⟩|⟨_,_,_,e⟩<;>omega
theorem Ib {o:Oper} {t:TypeId} {x:Operand} {lo hi:Option Operand} {sv:SV} (ho:o.op= .slice t x lo hi none) (h:cR P o st=some sv):jf P μ loc o sv a w:=by
 unfold cR at h;rw [ho] at h;simp only [] at h;split at h
 ·rename_i s lv hv hu hx hlo hhi
  split at h
  ·rename_i hh Ax
   cases tV:dW lv 0 hh with
   |none=>simp [tV] at h
   |some l=>
    simp [tV] at h;subst h;have qW:=bf hR hx;simp only [cW,rep] at qW;have hcap:hh≤s.length:=by
     rcases eO hR hhi Ax .sliceAlen with ⟨_,e⟩|⟨_,_,_,e⟩<;>omega
    have YL:l≤hh:=by
     rcases eO hR hlo tV .sliceB with ⟨_,e⟩|⟨_,_,_,e⟩<;>omega
    refine di (s:=Instr.sliceAt t (a.eval x) (lo.map a.eval) (hi.map a.eval) none) (by unfold execOp;rw [ho];rfl) (v:= .string ⟨((s.take hh).drop l).toArray⟩) ?_ (by simp [cW,rep]);rw [qW];have hsz:(⟨s.toArray⟩:ByteArray).size=s.length:=by simp [ByteArray.size]
    have hex:=vU s l hh YL hcap;rcases eO hR hhi Ax .sliceAlen with ⟨rfl,rfl⟩|⟨xh,rfl,rh,_⟩<;>
    rcases eO hR hlo tV .sliceB with ⟨rfl,rfl⟩|⟨xl,rfl,rl,_⟩<;>
    simp_all [Instr.sliceAt,Instr.slice,run_underlying hu,Instr.sliceBounds]
  ·cases h
 ·rename_i e sz xs lv hv hu hx hlo hhi
  split at h
  ·rename_i e' s hh hs Ax
   obtain ⟨Ao,inf,kj,hsz⟩:=eE hs;rw [hu] at Ao;injection Ao with Ao;injection Ao with Ao;subst Ao
   split at h
   ·rename_i e;subst e
    cases tV:dW lv 0 hh with
    |none=>simp [tV] at h
    |some l=>
     simp [tV] at h;subst h;have qW:=bf hR hx;simp only [cW,rep] at qW;obtain ⟨A,c,qW,hlc,hcm,hrow⟩:=qW;have hcap:hh≤xs.length:=by
      rcases eO hR hhi Ax .sliceAcap with ⟨_,e⟩|⟨_,_,_,e⟩<;>omega
     have YL:l≤hh:=by
      rcases eO hR hlo tV .sliceB with ⟨_,e⟩|⟨_,_,_,e⟩<;>omega
     refine di (s:=Instr.sliceAt t (a.eval x) (lo.map a.eval) (hi.map a.eval) none) (by unfold execOp;rw [ho];rfl)
      (v:= .slice (if c=l then A else A.map (·.add (l *s))) (hh-l) (c-l)) ?_ ?_
     ·exact Gu hR hu (by rw [gC,kj];simp [hsz]) qW hlc hlo hhi Ax tV
     ·show rep μ (.cm s ((xs.take hh).drop l)) _
      rw [rep];have hlen:((xs.take hh).drop l).length=hh-l:=by simp;omega
      refine ⟨_,_,by rw [hlen],by omega,by omega,?_⟩;rcases hrow with hz|⟨b,off,rfl,hrow⟩
      ·exact .inl (by omega)
      ·by_cases hc:c=l
       ·exact .inl (by omega)
       ·refine .inr ⟨b,off+l *s,by rw [if_neg hc];simp [add_lit],?_⟩
        exact Jb (Jc hrow hh) l (by simp;omega)
   ·cases h
  ·cases h
 ·rename_i e id lv hv hu hx hlo hhi
  split at h
  ·rename_i e' s e2 sz xs hs cU
   obtain ⟨Ao,inf,kj,hsz⟩:=eE hs;rw [hu] at Ao;injection Ao with Ao;injection Ao with Ao;subst Ao
   split at h
   ·rename_i hh Ax
    split at h
    ·rename_i e;subst e
     cases tV:dW lv 0 hh with
     |none=>simp [tV] at h
     |some l=>
      simp [tV] at h;subst h;have qW:a.eval x=loc id:=(bf hR hx:a.eval x=dR (loc id)).trans (iG (hR.obs id _ cU));obtain ⟨hcap,YL⟩:=DT hR hlo hhi Ax tV;obtain ⟨vs,hown,hrc,_⟩:=hR.obs id _ cU;obtain ⟨A,c,mG,hlc,hA⟩:∃A c,loc id= .slice A xs.length c∧xs.length≤c∧(0<xs.length→∃g,A=some ⟨g,0,none⟩):=by
       rcases hown.2 with ⟨e1,e2⟩|⟨g,cap,cur,e1,h2,h3,h4⟩
       ·exact ⟨none,0,by rw [e1,e2],by omega,by omega⟩
       ·exact ⟨_,cap,e1,h4.1,fun _=>⟨g,rfl⟩⟩
      refine di (s:=Instr.sliceAt t (a.eval x) (lo.map a.eval) (hi.map a.eval) none) (by unfold execOp;rw [ho];rfl)
       (v:= .slice (if c=l then A else A.map (·.add (l *s))) (hh-l) (c-l)) (Gu hR hu (by rw [gC,kj];simp [hsz]) (qW.trans mG) hlc hlo hhi Ax tV) ?_
      refine ⟨A,_,c,_,_,mG,YL,hcap,by omega,rfl,fun e=> ?_,fun hlt=> ?_⟩
      ·subst e
       refine ⟨?_,by omega⟩;cases A<;>simp [add_zero']
      ·obtain ⟨g,rfl⟩:=hA (by omega)
       refine ⟨g,rfl,?_⟩;rw [if_neg (by omega)];simp [add_lit]
    ·cases h
   ·cases h
  ·cases h
 ·rename_i e id sz a' b' lv hv hu hx hlo hhi
  split at h
  ·rename_i e' s hh hs Ax
   obtain ⟨Ao,inf,kj,hsz⟩:=eE hs;rw [hu] at Ao;injection Ao with Ao;injection Ao with Ao;subst Ao
   split at h
   ·rename_i e;subst e
    cases tV:dW lv 0 hh with
    |none=>simp [tV] at h
    |some l=>
     simp [tV] at h;subst h;obtain ⟨A,n,c,A',c',mG,hl1,PE,rV,qW,hz,hg⟩:=bf hR hx;obtain ⟨hcap,YL⟩:=DT hR hlo hhi Ax tV;refine di (s:=Instr.sliceAt t (a.eval x) (lo.map a.eval) (hi.map a.eval) none) (by unfold execOp;rw [ho];rfl)
      (v:= .slice (if c'=l then A' else A'.map (·.add (l *s))) (hh-l) (c'-l)) (Gu hR hu (by rw [gC,kj];simp [hsz]) qW rV hlo hhi Ax tV) ?_
     refine ⟨A,_,c,(if c'=l then A' else A'.map (·.add (l *s))),c'-l,mG,by omega,by omega,by omega,by rw [show a'+hh-(a'+l)=hh-l from by omega],fun e=> ?_,fun hlt=> ?_⟩
     ·obtain ⟨rfl,rfl⟩:a'=0∧l=0:=by omega
      obtain ⟨rfl,rfl⟩:=hz rfl;refine ⟨?_,by omega⟩;cases A'<;>simp [add_zero']
     ·obtain ⟨g,rfl,rfl⟩:=hg (by omega)
      refine ⟨g,rfl,?_⟩;rw [if_neg (by omega)];simp [add_lit,Nat.add_mul]
   ·cases h
  ·cases h
 ·cases h
theorem De {o:Oper} {x:Operand} {i:Nat} {sv:SV} (ho:o.op= .extract x i) (h:cR P o st=some sv):jf P μ loc o sv a w:=by
 unfold cR at h;rw [ho] at h;simp only [] at h;split at h
 ·rename_i vs hx
  cases hg:vs[i]? with
  |none=>simp [hg] at h
  |some y=>
   simp [hg] at h;subst h;have hv:=bf hR hx;simp only [cW,rep] at hv;obtain ⟨us,hv,hall⟩:=hv;obtain ⟨u,hu,hr⟩:=od hall hg;refine di (s:=Instr.extract (a.eval x) i) (by unfold execOp;rw [ho]) (v:=u) ?_ hr;rw [hv];simp [Instr.extract,hu]
 ·rename_i v b hx
  obtain ⟨u,hv,hr⟩:=bf hR hx;split at h
  ·injection h with h;subst h
   refine di (s:=Instr.extract (a.eval x) 0) (by unfold execOp;rw [ho]) (v:=u) ?_ hr;rw [hv];simp [Instr.extract]
  ·injection h with h;subst h
   refine di (s:=Instr.extract (a.eval x) 1) (by unfold execOp;rw [ho]) (v:= .bool b) ?_ (by simp [cW,rep]);rw [hv];simp [Instr.extract]
  ·cases h
 ·cases h
omit hR in
theorem Ac {ts:List TypeId} {vs:List Value} {cs:List AV} (h:lV P ts vs=some cs):gB μ cs vs:=by
 induction ts generalizing vs cs with
 |nil=>
  cases vs with
  |nil=>simp [lV] at h;subst h;exact ⟨bZ,by simp⟩
  |cons v vs=>simp [lV] at h
 |cons t ts ih=>
  cases vs with
  |nil=>simp [lV] at h
  |cons v vs=>
   simp only [lV] at h;split at h
   ·rename_i x xs hx hxs
    injection h with h;subst h
    have hr:=oU (P:=P) (μ:=μ) hx;have k:=ih hxs;refine ⟨bq hr k.1,fun u hu=> ?_⟩;rcases List.mem_cons.1 hu with rfl|hu
    ·unfold ofConst at hx
     split at hx<;>first|rfl|(cases hx)
    ·exact k.2 u hu
   ·cases h
omit hR in
theorem jE {t:TypeId} {z:List AV} (h:zeroCells P t=some z):∃i v,P.info? t=some i∧i.zero=some v∧gB μ z v.cells.toList:=by
 unfold zeroCells at h;split at h
 ·rename_i i hi
  split at h
  ·rename_i v hv
   exact ⟨i,v,hi,hv,Ac h⟩
  ·cases h
 ·cases h
theorem uL {ty:Nat→TypeId} {parts:List (Nat×Operand)} {ps:List (Nat×AV)} (h:partsOf P ty st parts=some ps):
  ps.map (·.1)=parts.map (·.1)∧bF μ (ps.map (·.2)) (parts.map fun p=>a.eval p.2):=by
 induction parts generalizing ps with
 |nil=>simp [partsOf] at h;subst h;exact ⟨rfl,bZ⟩
 |cons p parts ih=>
  obtain ⟨i,x⟩:=p;simp only [partsOf] at h;split at h
  ·rename_i v vs hv hvs
   injection h with h;subst h
   obtain ⟨h1,h2⟩:=ih hvs;exact ⟨by simp [h1],by simpa using bq (cV hR hv) h2⟩
  ·cases h
omit hR in
theorem z6 (cur:List Value):∀(news:List Value) (off k:Nat),off+k+news.length≤cur.length→
  ((news.zipIdx k).foldl (fun (cs:Array Value) (p:Value×Nat)=>cs.setIfInBounds (off+p.2) p.1) cur.toArray)=(cur.take (off+k)++news++cur.drop (off+k+news.length)).toArray:=by
 intro news
 induction news generalizing cur with
 |nil=>intro off k h;simp
 |cons v news ih=>
  intro off k h;simp only [List.zipIdx_cons,List.foldl_cons];simp only [List.length_cons] at h;have h1:cur.toArray.setIfInBounds (off+k) v=(cur.set (off+k) v).toArray:=by simp
  rw [h1,ih (cur.set (off+k) v) off (k+1) (by simp;omega)]
  congr 1
  rw [←Nat.add_assoc,List.take_succ_eq_append_getElem (by simp;omega)];simp only [List.getElem_set_self,List.take_set_of_le (Nat.le_refl _),List.length_cons];rw [List.drop_set_of_lt (by omega)];simp only [List.append_assoc,List.cons_append,List.nil_append]
  congr 4
  omega
omit hR in
theorem Bh {place:Nat→Option (Nat×Nat)} {cells cs:List AV} {vs:List Value} {ps:List (Nat×AV)} {us:List (Nat×Value)}
  (h:sH place cells ps=some cs) (hc:gB μ cells vs) (h1:ps.map (·.1)=us.map (·.1)) (h2:bF μ (ps.map (·.2)) (us.map (·.2))) (h3:∀p∈ps,∀x,p.2≠ .fG x):
  ∃ws:List Value,Instr.fill place vs.toArray us=some ws.toArray∧gB μ cs ws:=by
 induction ps generalizing cells vs us with
 |nil=>
  cases us with
  |nil=>simp [sH] at h;subst h;exact ⟨vs,by simp [Instr.fill],hc⟩
  |cons u us=>simp at h1
 |cons p ps ih=>
  cases us with
  |nil=>simp at h1
  |cons u us=>
   obtain ⟨i,x⟩:=p;obtain ⟨i',y⟩:=u;simp only [List.map_cons,List.cons.injEq] at h1;obtain ⟨rfl,h1⟩:=h1;simp only [List.map_cons,bF] at h2;obtain ⟨u',us',e,hx,h2⟩:=h2;simp only [List.cons.injEq] at e;obtain ⟨rfl,rfl⟩:=e;simp only [sH] at h;split at h
   ·cases h
   ·rename_i off size OL
    split at h
    ·rename_i de
     have hxc:=ED hx (fun z=>h3 (i,x) (by simp) z);have hlen:y.cells.size=size:=by
      have:=hxc.length;simpa [de.1] using this
     have hvl:=hc.length;have hnews:=((hc.take off).append hxc).append (hc.drop (off+size));obtain ⟨ws,hw,hr⟩:=ih h hnews h1 h2 (fun p hp=>h3 p (by simp [hp]));refine ⟨ws,?_,hr⟩;simp only [Instr.fill,OL];have hle:¬(off+y.cells.size>vs.toArray.size):=by simp;omega
     rw [if_neg (by simp [hlen];omega)];rw [←hw]
     congr 1
     have hsp:=z6 vs y.cells.toList off 0 (by simp;omega);simp only [Nat.add_zero,Array.length_toList,hlen] at hsp;rw [←hsp,←Array.foldl_toList,Array.toList_zipIdx]
    ·cases h
omit hR in
theorem run_places (l:List Field) (hl:l.all (fun f=>(gC P f.type).isSome)=true):
  (l.mapM (fun f=>Functor.map (Prod.mk f.offset) (sizeOf f.type)):Sem (List (Nat×Nat))).run P w= .ok (l.map fun f=>(f.offset,(gC P f.type).getD 0)) w:=by
 induction l with
 |nil=>rfl
 |cons f l ih=>
  simp only [List.all_cons,Bool.and_eq_true] at hl;obtain ⟨n,hn⟩:=Option.isSome_iff_exists.1 hl.1;simp [List.mapM_cons,j9 hn,hn,ih hl.2]
theorem H8 {o:Oper} {t:TypeId} {parts:Array (Nat×Operand)} {sv:SV} (ho:o.op= .build t parts) (h:cR P o st=some sv):jf P μ loc o sv a w:=by
 unfold cR at h;rw [ho] at h;simp only [] at h;split at h
 ·rename_i fs hu
  split at h
  ·rename_i z ps hz hps
   split at h
   ·rename_i hnt
    obtain ⟨hnt,OH⟩:=hnt;cases hf:sH (iS P t) z ps with
    |none=>simp [hf] at h
    |some cs=>
     simp [hf] at h;subst h;obtain ⟨i,v,hi,hv,hc⟩:=jE (μ:=μ) hz;obtain ⟨h1,h2⟩:=uL hR hps
     obtain ⟨ws,hw,hr⟩:=Bh (us:=parts.toList.map fun p=>(p.1,a.eval p.2)) hf hc (by simpa [List.map_map,Function.comp_def] using h1) (by simpa [List.map_map,Function.comp_def] using h2) (fun p hp x e=>by
      have:=List.all_eq_true.1 hnt p hp
      rw [e] at this;cases this)
     refine di (s:=Instr.build t (parts.map fun p=>(p.1,a.eval p.2))) (by unfold execOp;rw [ho]) (v:= .agg ws.toArray) ?_ ?_
     ·obtain ⟨fl⟩:=fs
      have OL:=run_places (w:=w) fl OH;have hpe:(fun x=>Option.map (fun f:Field=>(f.offset,(gC P f.type).getD 0)) fl[x]?)=iS P t:=by
       funext x
       simp only [iS,oK,hu,List.getElem?_toArray];cases hx:fl[x]? with
       |none=>rfl
       |some fd=>
        obtain ⟨n,hn⟩:=Option.isSome_iff_exists.1 (List.all_eq_true.1 OH fd (List.mem_of_getElem? hx));simp [hn]
      simp only [Array.toArray_toList] at hw;simp [Instr.build,zeroValue,typeInfo,hi,hv,run_underlying hu,OL,hpe,hw]
     ·show rep μ (.agg cs) _
      rw [rep];exact ⟨ws,rfl,hr.1,hr.2⟩
   ·cases h
  ·cases h
 ·cases h
omit hR in
theorem Dc {desc:TypeDesc} {kt:TypeId} (hd:P.underlying kt=some desc) {key:AV} {kv:Value} (hk:rep μ key kv) (hok:fc P kt key=true):∀{ks:List AV} {bK:List MapEntry} {r:Option Nat} (i:Nat),bF μ ks (bK.map (·.key))→gG key ks=some r→
  (match r with
  |some j=>∃e,bK[j]? =some e∧Instr.findNow desc kv bK i=some (some (i+j,e.val))∧∃x,ks[j]? =some x∧nQ key x=some true
  |none=>Instr.findNow desc kv bK i=some none):=by
 intro ks
 induction ks with
 |nil=>
  intro bK r i h hf;simp only [gG,Option.some.injEq] at hf;subst hf;rw [bF] at h;have:bK=[]:=by simpa using h
  subst this;rfl
 |cons x ks ih=>
  intro bK r i h hf;rw [bF] at h;obtain ⟨u,us,e,hx,qm⟩:=h;cases bK with
  |nil=>simp at e
  |cons en bK=>
   simp only [List.map_cons,List.cons.injEq] at e;obtain ⟨rfl,rfl⟩:=e;have same:∀b,nQ key x=some b→Instr.sameNow desc kv en.key=some b:=by
    intro b hb;unfold nQ at hb;split at hb
    ·rename_i s t
     rw [rep] at hk hx;rw [hk,hx];simp only [fc,hd] at hok;cases desc<;>simp at hok;simp only [Instr.sameNow,L6];exact hb
    ·rename_i k s k' t
     rw [rep] at hk hx;rw [hk,hx];simp only [fc,hd] at hok;cases desc<;>simp at hok;simp only [Instr.sameNow];exact hb
    ·rename_i s t
     rw [rep] at hk hx;rw [hk,hx];simp only [fc,hd] at hok;cases desc<;>simp at hok;simp only [Instr.sameNow];exact hb
    ·cases hb
   simp only [gG] at hf;split at hf
   ·rename_i hs
    injection hf with hf;subst hf
    have hs':=same _ hs;exact ⟨en,rfl,by simp only [Instr.findNow,hs'];simp,x,rfl,hs⟩
   ·rename_i hs
    have hs':=same _ hs;cases hm:gG key ks with
    |none=>simp [hm] at hf
    |some r'=>
     simp [hm] at hf;subst hf;have h2:=ih (i+1) qm hm;cases r' with
     |none=>simp only [Option.map_none,Instr.findNow,hs'];exact h2
     |some j=>
      obtain ⟨e,he,hf,hx⟩:=h2;exact ⟨e,by simpa using he,by simp only [Instr.findNow,hs',hf];congr 3;omega,by simpa using hx⟩
   ·cases hf
omit hR in
theorem eG {kt:TypeId} {key:AV} {kv:Value} (hk:rep μ key kv) (hok:fc P kt key=true) (b:Bool) (w:World):(Instr.checkKey b 10000 kt kv).run P w= .ok () w:=by
 have key:∀n,(Instr.checkKey b (n+1) kt kv).run P w= .ok () w:=by
  intro n;unfold fc at hok;split at hok
  ·rename_i hu;rw [rep] at hk;subst hk;simp [Instr.checkKey,run_underlying hu]
  ·rename_i hu;rw [rep] at hk;subst hk;simp [Instr.checkKey,run_underlying hu]
  ·rename_i hu;rw [rep] at hk;subst hk;simp [Instr.checkKey,run_underlying hu]
  ·cases hok
 exact key 9999
omit hR in
theorem K3 {kt:TypeId} {key:AV} (hok:fc P kt key=true):∃desc,P.underlying kt=some desc:=by
 unfold fc at hok;split at hok
 ·exact ⟨_, ‹_›⟩
 ·exact ⟨_, ‹_›⟩
 ·exact ⟨_, ‹_›⟩
 ·cases hok
omit hR in
theorem iL {kt:TypeId} {key:AV} {kv:Value} (hk:rep μ key kv) (hok:fc P kt key=true) {ks:List AV} {bK:List MapEntry} {r:Option Nat} (h:bF μ ks (bK.map (·.key))) (hf:gG key ks=some r) (w:World):
  match r with
  |some j=>∃e,bK[j]? =some e∧(Instr.findKey kt kv bK).run P w= .ok (some (j,e.val)) w∧∃x,ks[j]? =some x∧nQ key x=some true
  |none=>(Instr.findKey kt kv bK).run P w= .ok none w:=by
 obtain ⟨desc,hd⟩:=K3 hok;have h1:=Dc hd hk hok 0 h hf;cases r with
 |none=>simp only [] at h1⊢;simp [Instr.findKey,run_underlying hd,h1]
 |some j=>
  obtain ⟨e,he,hn,hx⟩:=h1;exact ⟨e,he,by simp [Instr.findKey,run_underlying hd,hn],hx⟩
omit hR in
theorem tK {t:TypeId} {z:AV} (h:je P t=some z) (w:World):∃v,(zeroValue t).run P w= .ok v w∧rep μ z v:=by
 unfold je at h;split at h
 ·rename_i i hi
  have hrun:∀v,i.zero=some v→(zeroValue t).run P w= .ok v w:=fun v hv=>by simp [zeroValue,typeInfo,hi,hv]
  split at h
  ·rename_i cs hz
   cases hc:lV P (mR P 8 t) cs.toList with
   |none=>simp [hc] at h
   |some zs=>
    simp [hc] at h;subst h;have hr:=Ac (μ:=μ) hc;refine ⟨_,hrun _ hz,?_⟩;rw [rep];exact ⟨cs.toList,by simp,hr.1,hr.2⟩
  ·rename_i v _ hz
   exact ⟨v,hrun v hz,oU h⟩
  ·cases h
 ·cases h
theorem Fx {o:Oper} {t:TypeId} {x k:Operand} {ok:Bool} {sv:SV} (ho:o.op= .lookup t x k ok) (h:cR P o st=some sv):jf P μ loc o sv a w:=by
 unfold cR at h;rw [ho] at h;simp only [] at h;split at h
 ·rename_i kt et hu
  split at h
  ·rename_i ks key hx hk
   cases hok:(ok&&fc P kt key&&(je P et).isSome) with
   |false=>rw [hok] at h;cases h
   |true=>
    simp only [hok,cond_true,Option.map_eq_some_iff] at h;obtain ⟨r,hf,rfl⟩:=h;simp only [Bool.and_eq_true] at hok;obtain ⟨⟨hok1,hok⟩,hzz⟩:=hok;subst hok1;have hkr:=cV hR hk;obtain ⟨sx,XB,TR⟩:=Option.bind_eq_some_iff.1 hx;unfold zI at TR;split at TR
    ·rename_i id
     split at TR
     ·rename_i k' e' sz' ks' vs' cU
      injection TR with TR;subst TR
      have hv:a.eval x=dR (loc id):=bf hR XB;obtain ⟨b,bK,clock,us,hl,_,hh,_,h1,h2,h3,h4,h5,_⟩:=hR.obs id _ cU;have hv:a.eval x= .map (some b):=by rw [hv,hl];rfl
      have C1:=iL hkr hok h1 hf w;have fin:∀y,(Instr.lookup t (a.eval x) (a.eval k) true).run P w= .ok (.tuple #[y, .bool r.isSome]) w→jf P μ loc o (.two .any r.isSome) a w:=fun y hr=>
       di (s:=Instr.lookup t (a.eval x) (a.eval k) true) (by unfold execOp;rw [ho]) hr ⟨y,rfl,trivial⟩
      cases r with
      |none=>
       simp only [] at C1;obtain ⟨z,hz⟩:=Option.isSome_iff_exists.1 hzz;obtain ⟨zv,XJ,_⟩:=tK (μ:=μ) hz w;refine fin zv ?_;rw [hv];simp [Instr.lookup,run_underlying hu,er hh,eG hkr hok,C1,XJ]
      |some j=>
       obtain ⟨e,he,hrun,_⟩:=C1;refine fin e.val ?_;rw [hv];simp [Instr.lookup,run_underlying hu,er hh,eG hkr hok,hrun]
     ·cases TR
    ·cases TR
  split at h
  ·rename_i ks vs key hx hk
   cases hok:fc P kt key with
   |false=>simp [hok] at h
   |true=>
    simp only [hok,cond_true] at h;have hkr:=cV hR hk;obtain ⟨sx,XB,TR⟩:=Option.bind_eq_some_iff.1 hx;have hm:=BH hR TR (bf hR XB);have fin:∀(y:AV) (b:Bool) (yv:Value),rep μ y yv→rep μ (found ok y b) (if ok=true then .tuple #[yv, .bool b] else yv):=fun y b yv hy=>by
     cases ok with
     |false=>exact hy
     |true=>simp only [found,cond_true,if_true];rw [rep];exact ⟨[yv, .bool b],rfl,bq hy (bq (by simp [rep]) bZ)⟩
    have run:∀(y:AV) (b:Bool) (yv:Value),rep μ y yv→(Instr.lookup t (a.eval x) (a.eval k) ok).run P w= .ok (if ok=true then .tuple #[yv, .bool b] else yv) w→jf P μ loc o (.pv (found ok y b)) a w:=fun y b yv hy hr=>
     di (s:=Instr.lookup t (a.eval x) (a.eval k) ok) (by unfold execOp;rw [ho]) hr (fin y b yv hy)
    unfold IL at h;rcases hm with ⟨hv,rfl,rfl⟩|⟨b,bK,clock,hv,hh,h1,h2⟩
    ·simp only [gG] at h
     cases hz:je P et with
     |none=>simp [hz] at h
     |some z=>
      simp [hz] at h;subst h;obtain ⟨zv,XJ,RA⟩:=tK (μ:=μ) hz w;refine run z false zv RA ?_;have C1:=iL hkr hok (ks:=[]) (bK:=[]) (r:=none) (by simp [bF]) rfl w;simp only [] at C1;rw [hv];simp [Instr.lookup,run_underlying hu,eG hkr hok,C1,XJ]
    ·cases hf:gG key ks with
     |none=>simp [hf] at h
     |some r=>
      have C1:=iL hkr hok h1 hf w;cases r with
      |none=>
       simp only [hf] at h;cases hz:je P et with
       |none=>simp [hz] at h
       |some z=>
        simp [hz] at h;subst h;obtain ⟨zv,XJ,RA⟩:=tK (μ:=μ) hz w;refine run z false zv RA ?_;simp only [] at C1;rw [hv];simp [Instr.lookup,run_underlying hu,er hh,eG hkr hok,C1,XJ]
      |some j=>
       simp only [hf] at h;cases hg:vs[j]? with
       |none=>simp [hg] at h
       |some y=>
        simp [hg] at h;subst h;obtain ⟨e,he,hrun,_⟩:=C1;obtain ⟨yv,Dj,hyr⟩:=od h2 hg;have:yv=e.val:=by
         simp [List.getElem?_map] at Dj;have he':bK[j]? =some e:=by simpa using he
         simp [he'] at Dj;exact Dj.symm
        subst this;refine run y true e.val hyr ?_;rw [hv];simp [Instr.lookup,run_underlying hu,er hh,eG hkr hok,hrun]
  ·cases h
 ·cases h
theorem oa {o:Oper} {sv:SV} (h:cR P o st=some sv):jf P μ loc o sv a w:=by
 have h':=h;unfold cR at h';split at h'
 ·rename_i x ho;exact u7 hR (.inl ho) h'
 ·rename_i x ho;exact u7 hR (.inr ho) h'
 ·rename_i ho;exact Kz hR ho h
 ·rename_i ho;exact OC hR ho h
 ·rename_i ho;exact QX hR ho h
 ·rename_i ho;exact Dd hR ho h
 ·rename_i ho;exact zB hR ho h'
 ·rename_i ho;exact Bl hR ho h
 ·rename_i ho;exact Aj hR ho h
 ·rename_i ho;exact H9 hR ho h
 ·rename_i ho;exact Ak hR ho h
 ·rename_i ho;exact Ia hR ho h
 ·rename_i ho;exact Ky hR ho h
 ·rename_i ho;exact Ib hR ho h
 ·rename_i ho;exact De hR ho h
 ·rename_i ho;exact Fx hR ho h
 ·rename_i ho;exact H8 hR ho h
 ·cases h'
end
end
end Go.AM
