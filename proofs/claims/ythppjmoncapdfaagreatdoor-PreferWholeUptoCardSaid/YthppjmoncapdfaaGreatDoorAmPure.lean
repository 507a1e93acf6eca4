/- THE ABSTRACT MACHINE. -/
import Derived.Test.YthppjmoncapdfaaGreatDoorAmRel
import Derived.Laws.Strings
import Derived.Laws.StructEq
set_option linter.all false
namespace Go.AM
section
variable {P:Program} {μ:Mu} {loc:Nat→Value} {w:World}
theorem vY {t:TypeId} {v:Value} {x:AV} (h:ofConst P t v=some x):rep μ x v:=by
 unfold ofConst at h;split at h
 ·grind [rep]
 ·grind [rep]
 ·grind [rep]
 ·cases hs:isSlice P t with
  |none=>simp_all
  |some y=>simp [hs] at h;subst h;exact ⟨_,0,rfl,aS _,dh _, .inl rfl⟩
 ·grind [rep]
 ·grind [rep,Value.oneCell',Value.cells]
 ·split at h
  ·injection h with h;subst h;rw [rep];simp
  grind
 grind
theorem qX {t:TypeId} {b:Bool} (h:CP P t=some b) (w:World):(isAgg t).run P w= .ok b w:=by
 unfold CP at h;unfold isAgg;split at h
 ·simp_all [bz]
 ·simp_all [bz]
 ·rename_i d h1 h2 hu
  injection h with h;subst h
  simp only [fQ,bz hu,gC];rfl
 grind
theorem kI {t:TypeId} {n:Nat} (h:lq P t=some n) (w:World):(sizeOf t).run P w= .ok n w:=by
 unfold lq at h;cases hi:P.info? t with
 |none=>simp_all
 |some i=>simp_all [sizeOf,typeInfo]
theorem gA {t:TypeId} {e:TypeId} {s:Nat} (h:isSlice P t=some (e,s)):P.underlying t=some (.slice e)∧∃i,P.info? e=some i∧i.size=s:=by
 unfold isSlice at h;split at h
 ·rename_i e' hu
  cases hi:P.info? e' with
  |none=>simp_all
  |some i=>simp_all
 grind
theorem add_lit (b off j:Nat):(⟨b,off,none⟩:Addr).add j=⟨b,off+j,none⟩:=by
 simp_all [Addr.add]
theorem add_zero' (p:Addr):p.add 0=p:=by
 rfl
theorem rT {t:TypeId} {ad:Addr} {cs:List AV} {vs:List Value} {x:AV} (hx:iS P t cs=some x) (hc:ku μ cs vs)
  (hcell:∀j v,vs[j]? =some v→w.cell? (ad.add j)=some v):∃v,(loadVar t ad).run P w= .ok v w∧rep μ x v:=by
 unfold iS at hx;split at hx
 ·rename_i n ha hs
  split at hx
  ·injection hx with hx;subst hx
   have hl:(vs.take n).length=n:=by rw [gD,hc.length];omega
   have hr:=vF (P:=P) w _ (vs.take n) (fun j v hv=>hcell j v (by
    grind))
   refine ⟨.agg (vs.take n).toArray,?_,?_⟩
   ·simp_all [loadVar,qX,kI]
   ·exact ⟨_,rfl,(hc.take n).1,(hc.take n).2⟩
  simp_all
 ·obtain ⟨v,hv,hr⟩:=sJ hc.1 hx
  have h0:=hcell 0 v hv;simp_all [Addr.add,loadVar,qX]
 simp_all
theorem JP {t:TypeId} {cs:List AV} {vs:List Value} {x:AV} (off:Nat) (hx:iS P t (cs.drop off)=some x) (hc:ku μ cs vs):
  ∃v,(part t vs.toArray off).run P w= .ok v w∧rep μ x v:=by
 unfold iS at hx;split at hx
 ·rename_i n ha hs
  split at hx
  ·injection hx with hx;subst hx
   refine ⟨.agg ((vs.drop off).take n).toArray,?_,?_⟩
   ·simp [part,qX ha,kI hs]
   ·exact ⟨_,rfl,((hc.drop _).take n).1,((hc.drop _).take n).2⟩
  simp_all
 ·obtain ⟨v,hv,hr⟩:=sJ (hc.drop _).1 hx
  simp_all [part,qX]
 simp_all
theorem LS {xs:List SV} {vs:List Value} (h:iQ μ loc xs vs) {i:Nat} {x:SV} (hx:xs[i]? =some x):∃v,vs[i]? =some v∧gy μ loc x v:=by
 induction xs generalizing vs i with
 |nil=>simp at hx
 |cons y xs ih=>
  obtain ⟨u,us,rfl,h1,h2⟩:=h
  grind
theorem pY {xs:List SV} {vs:List Value} (h:iQ μ loc xs vs):vs.length=xs.length:=by
 induction xs generalizing vs with
 |nil=>exact aI _ h
 |cons x xs ih=>obtain ⟨u,us,rfl,_,h2⟩:=h;simp_all
theorem CB {xs:List SV} {vs:List Value} (h:iQ μ loc xs vs) (n:Nat):iQ μ loc (xs.drop n) (vs.drop n):=by
 induction n generalizing xs vs with
 |zero=>simpa using h
 |succ n ih=>
  cases xs with
  |nil=>have:vs=[]:=h;subst this;simp [iQ]
  |cons x xs=>obtain ⟨u,us,rfl,_,h2⟩:=h;simpa using ih h2
theorem CC {xs:List SV} {vs:List Value} (h:iQ μ loc xs vs) (n:Nat):iQ μ loc (xs.take n) (vs.take n):=by
 induction n generalizing xs vs with
 |zero=>rfl
 |succ n ih=>
  cases xs with
  |nil=>simp_all [iQ]
  |cons x xs=>obtain ⟨u,us,rfl,h1,h2⟩:=h;exact ⟨u,_,by simp,h1,ih h2⟩
theorem pX {xs ys:List SV} {vs us:List Value} (h:iQ μ loc xs vs) (k:iQ μ loc ys us):iQ μ loc (xs++ys) (vs++us):=by
 induction xs generalizing vs with
 |nil=>have:vs=[]:=h;simp_all
 |cons x xs ih=>obtain ⟨u,vs',rfl,h1,h2⟩:=h;exact ⟨u,_,by simp,h1,ih h2⟩
theorem rS {cs:List AV} {vs:List Value} (h:bV μ cs vs):iQ μ loc (cs.map .pv) vs:=by
 induction cs generalizing vs with
 |nil=>assumption
 |cons x xs ih=>obtain ⟨u,us,rfl,h1,h2⟩:=h;exact ⟨u,us,rfl,h1,ih h2⟩
theorem Pu {xs:List SV} {ks:List qm} {vs:List Value} (h:vL xs=some ks) (k:iQ μ loc xs vs):kz μ loc ks vs:=by
 induction xs generalizing ks vs with
 |nil=>simp [vL,aG] at h;subst h;exact k
 |cons x xs ih=>
  obtain ⟨u,us,rfl,h1,h2⟩:=k;cases x with
  |pv v=>
   simp [vL,bS] at h;obtain ⟨ks',hk,rfl⟩:=h;exact ⟨u,us,rfl,h1,ih hk h2⟩
  |row id=>
   simp [vL,bS] at h;obtain ⟨ks',hk,rfl⟩:=h;exact ⟨u,us,rfl,h1,ih hk h2⟩
  |_=>simp [vL] at h
theorem FP {xs:List SV} {cs:List AV} {vs:List Value} (h:om xs=some cs) (k:iQ μ loc xs vs):bV μ cs vs:=by
 induction xs generalizing vs cs with
 |nil=>simp [om] at h;subst h;assumption
 |cons x xs ih=>
  cases x with
  |pv v=>
   simp [om] at h;cases h':om xs with
   |none=>simp_all
   |some ds=>simp [h'] at h;subst h;obtain ⟨u,us,rfl,h1,h2⟩:=k;exact bY h1 (ih h' h2)
  |_=>simp [om] at h
theorem dr {sz:Nat} {xs:List (List AV)} {vs:List Value} (h:c4 μ sz xs vs):vs.length=xs.length *sz:=by
 induction xs generalizing vs with
 |nil=>have:vs=[]:=h;simp_all
 |cons x xs ih=>obtain ⟨us,ws,rfl,_,h2,h3⟩:=h;grind
theorem NR {sz:Nat} {xs:List (List AV)} {vs:List Value} (h:c4 μ sz xs vs) {i:Nat} {x:List AV} (hx:xs[i]? =some x):
  ∃us:List Value,ku μ x us∧us.length=sz∧∀j u,us[j]? =some u→vs[i *sz+j]? =some u:=by
 induction xs generalizing vs i with
 |nil=>simp at hx
 |cons y xs ih=>
  obtain ⟨us,ws,rfl,h1,h2,h3⟩:=h;cases i with
  |zero=>
   grind
  |succ i=>
   grind
end
section
variable {P:Program} {N:Nat} {w0:World} {μ0:Mu} {L:sq} {μ:Mu} {loc:Nat→Value} {st:St} {a:Act} {w:World}
theorem aU (hR:Rel N w0 μ0 L μ loc st a w) {t:TypeId} {x:Operand} {sv:SV} (h:bq P t st x=some sv):gy μ loc sv (a.eval x):=by
 cases x with
 |tmp i=>
  obtain ⟨v,hv,hr⟩:=hR.env i _ h;simp_all [Act.eval]
 |const v=>
  simp [bq] at h;cases hc:ofConst P t v with
  |none=>simp_all
  |some y=>simp [hc] at h;subst h;exact vY hc
 |func f=>simp [bq] at h;subst h;exact ⟨[],rfl,ef⟩
 |global g=>simp [bq] at h
theorem fC (hR:Rel N w0 μ0 L μ loc st a w) {t:TypeId} {x:Operand} {v:AV} (h:(bq P t st x).bind iW =some v):rep μ v (a.eval x):=by
 cases ho:bq P t st x with
 |none=>simp_all
 |some sv=>
  have:=aU hR ho;cases sv<;>simp [ho,iW] at h;subst h;exact this
theorem PY (op:BinOp) (t:TypeId) (X Y:Operand) (k k':IntKind) (n m:Int) (w:World):(eqGuard op t X Y (.int k n) (.int k' m)).run P w= .ok () w:=by
 unfold eqGuard;simp
theorem PZ (op:BinOp) (t:TypeId) (X Y:Operand) (x y:ByteArray) (w:World):(eqGuard op t X Y (.string x) (.string y)).run P w= .ok () w:=by
 unfold eqGuard;simp
theorem Mx (op:BinOp) (t:TypeId) (X Y:Operand) (x y:Bool) (w:World):(eqGuard op t X Y (.bool x) (.bool y)).run P w= .ok () w:=by
 unfold eqGuard;split<;>rfl
theorem run_equalIn_bool (d:Nat) {t:TypeId} (hu:P.underlying t=some .bool) (x y:Bool) (w:World):(Op.equalIn (d+1) t (.bool x) (.bool y)).run P w= .ok (x==y) w:=by
 simp [Op.equalIn,bz hu]
theorem acC (a b:List UInt8):((⟨a.toArray⟩:ByteArray)==⟨b.toArray⟩)=(a==b):=by
 show (a.toArray==b.toArray)=(a==b)
 simp
theorem X0 {t:TypeId} {a:AV} (h:jO P t a=true):CP P t=some false:=by
 unfold jO at h
 grind [CP]
theorem FG {xs ys:List AV} {vs us:List Value} (hx:ku μ xs vs) (hy:ku μ ys us) (d:Nat):∀{fs:List Field} {b:Bool},Li P xs ys fs=some b→(Op.eqFields (d+1) vs.toArray us.toArray fs).run P w= .ok b w
 |[],b=>fun h=>by simp_all [Li,Op.eqFields]
 |f::fs,b=>fun h=>by
  unfold Li at h;split at h
  ·rename_i ax ay hax hay
   cases hc:(!(f.name== "_")&&jO P f.type ax&&jO P f.type ay&&(lq P f.type).isSome) with
   |false=>simp_all
   |true=>
    simp [hc] at h;simp at hc;obtain ⟨⟨⟨hn,hkx⟩,hky⟩,hsz⟩:=hc;obtain ⟨n,hn'⟩:=kA.1 hsz;have hag:=X0 hkx;have t1:iS P f.type (xs.drop f.offset)=some ax:=by
     unfold iS;rw [hag,hn'];simpa using hax
    have t2:iS P f.type (ys.drop f.offset)=some ay:=by
     unfold iS;rw [hag,hn'];simpa using hay
    obtain ⟨v,hv,rv⟩:=JP (w:=w) _ t1 hx;obtain ⟨u,hu,ru⟩:=JP (w:=w) _ t2 hy;split at h
    ·rename_i r q hr hq
     injection h with h;subst h
     have ih:=FG hx hy d hq;have he:(Op.equalIn (d+1) f.type v u).run P w= .ok r w:=by
      unfold jO at hkx;split at hkx
      ·cases ay<;>simp [vR] at hr
       simp_all [rep,run_equalIn_string]
      ·cases ay<;>simp [vR] at hr
       simp_all [rep,run_equalIn_int]
      ·cases ay<;>simp [vR] at hr
       simp_all [rep,run_equalIn_bool']
      ·cases hkx
     simp [Op.eqFields,au hn,fQ,hv,hu,he,gC,Sem.run_ite,ih];cases r<;>simp
    grind
  grind
theorem Mf {op:BinOp} {t:TypeId} {xs ys:List AV} {r:AV} {X Y:Operand} {u v:Value} (h:Sr P op t xs ys=some r) (hx:rep μ (.agg xs) u) (hy:rep μ (.agg ys) v):
  ∃z,(do eqGuard op t X Y u v;binOp op t u v).run P w= .ok z w∧rep μ r z:=by
 obtain ⟨vs,rfl,h1,h2⟩:=hx;obtain ⟨us,rfl,k1,k2⟩:=hy;unfold Sr at h;split at h
 ·rename_i fs hu
  cases hc:(!(P.stoodInHeld t)&& !(P.eqGuardType P.depth t)) with
  |false=>simp_all
  |true=>
   simp [hc] at h;simp at hc;have hf:P.fieldsOf t=fs:=by unfold Program.fieldsOf;rw [hu]
   have GV:P.underlying t=some (.struct (P.fieldsOf t)):=by rw [hf];exact hu
   have heq:∀b,Li P _ _ _=some b→(Op.equalIn 10000 t _ _).run P w= .ok b w:=fun b hb=>by
    rw [run_equalIn_struct w _ t _ _ GV hc.1,hf];exact FG ⟨h1,h2⟩ ⟨k1,k2⟩ _ hb
   simp [fQ,run_eqGuard_agg w _ t X Y _ _ hc.2];split at h
   ·injection h with h;subst h
    simp_all [binOp,Op.equal,Op.maxDepth,rep]
   ·injection h with h;subst h
    simp_all [binOp,Op.equal,Op.maxDepth,rep]
   grind
 grind
theorem Xc {op:BinOp} {t:TypeId} {x y r:AV} {X Y:Operand} {u v:Value} (h:bin P op t x y=some r) (hx:rep μ x u) (hy:rep μ y v):
  ∃z,(do eqGuard op t X Y u v;binOp op t u v).run P w= .ok z w∧rep μ r z:=by
 cases x with
 |int k n=>
  cases y with
  |int k' m=>
   rw [rep] at hx hy;subst hx;subst hy;simp only [fQ,PY,gC];unfold bin at h;cases op
   case shl=>
    simp only [AI] at h;split at h
    ·cases h
    ·injection h with h;subst h;rename_i hn;exact ⟨_,by simp [binOp,Op.shift,hn];rfl,by simp [rep]⟩
   case shr=>
    simp only [AI] at h;split at h
    ·cases h
    ·injection h with h;subst h;rename_i hn;exact ⟨_,by simp [binOp,Op.shift,hn];rfl,by simp [rep]⟩
   case quo=>
    simp only [] at h;split at h
    ·rename_i e;subst e
     simp only [E5] at h;split at h
     ·cases h
     ·injection h with h;subst h;simp_all [binOp,Op.intDiv,rep]
    grind
   case rem=>
    simp only [] at h;split at h
    ·rename_i e;subst e
     simp only [E5] at h;split at h
     ·cases h
     ·injection h with h;subst h;simp_all [binOp,Op.intDiv,rep]
    grind
   all_goals
    simp only [] at h;split at h
    ·rename_i e;subst e
     simp only [E5,aG] at h;subst h;simp_all [binOp,Op.intArith,Op.intBits,Op.intCmp,rep]
    grind
  |_=>simp [bin] at h
 |str s=>
  cases y with
  |str s'=>
   rw [rep] at hx hy;subst hx;subst hy;simp only [fQ,PZ,gC];unfold bin at h;simp only [UE] at h;cases op
   case add=>
    simp only [] at h;split at h
    ·injection h with h;subst h
     refine ⟨.string ⟨(s++s').toArray⟩,?_,by simp [rep]⟩;have hn:¬((((⟨s.toArray⟩:ByteArray).size+(⟨s'.toArray⟩:ByteArray).size))>IntKind.i64.max):=by
      simp [ByteArray.size];omega
     have e:(⟨s.toArray⟩:ByteArray)++⟨s'.toArray⟩=⟨_⟩:=rfl;simp_all [binOp,Op.stringOp]
    grind
   all_goals first
    |grind
    |(simp at h;subst h;simp_all [binOp,Op.stringOp,rep])
  |_=>simp [bin] at h
 |bool b=>
  cases y with
  |bool c=>
   subst hx;subst hy;simp [fQ,Mx];unfold bin at h;simp at h;split at h
   ·injection h with h;subst h
    simp_all [binOp,Op.equal,Op.maxDepth,run_equalIn_bool,rep]
   ·injection h with h;subst h
    simp_all [binOp,Op.equal,Op.maxDepth,run_equalIn_bool,rep]
   grind
  |_=>simp [bin] at h
 |agg xs=>
  cases y with
  |agg ys=>exact Mf (by assumption) hx hy
  |_=>simp [bin] at h
 |_=>simp [bin] at h
theorem acI {op:UnOp} {x r:AV} {u:Value} (h:un op x=some r) (hx:rep μ x u):∃z,(Op.unary op u).run P w= .ok z w∧rep μ r z:=by
 unfold un at h;split at h
 ·injection h with h;subst h;simp_all [rep,Op.unary,Op.intArith]
 ·injection h with h;subst h;simp_all [rep,Op.unary]
 grind
theorem jf {n0:Nat} {id:Nat} {e:TypeId} {sz:Nat} {xs:List (List AV)} (h:mE n0 L μ loc w id (.row e sz xs)):fM (loc id)=loc id:=by
 obtain ⟨vs,hown,_⟩:=h;rcases hown.2 with ⟨e1,_⟩|⟨g,cap,cur,e1,_⟩<;>rw [e1]<;>rfl
theorem U8 {n0:Nat} {id:Nat} {k e:TypeId} {ks es:List AV} (h:mE n0 L μ loc w id (.mp k e ks es)):fM (loc id)=loc id:=by
 obtain ⟨b,cN,clock,hl,_⟩:=h;rw [hl];rfl
theorem tP {sz b:Nat} {xs:List (List AV)} {off:Nat} (h:kS μ sz b xs off):∃vs,c4 μ sz xs vs∧∀j u,vs[j]? =some u→μ b (off+j)=some u:=by
 induction xs generalizing off with
 |nil=>exact ⟨[],rfl,by simp⟩
 |cons x xs ih=>
  obtain ⟨⟨us,h1,h2,h3,h4⟩,h5⟩:=h;obtain ⟨ws,k1,k2⟩:=ih h5;refine ⟨_,⟨us,ws,rfl,⟨h1,h2⟩,h3,k1⟩,fun j u hu=> ?_⟩
  grind
theorem lX {sz:Nat} {xs:List (List AV)} {vs:List Value} (h:c4 μ sz xs vs):∀u∈vs,u.oneCell'=true:=by
 induction xs generalizing vs with
 |nil=>have:vs=[]:=h;simp_all
 |cons x xs ih=>
  obtain ⟨a,b,rfl,h1,h2,h3⟩:=h;intro u hu;rcases bC.1 hu with hu|hu
  ·exact h1.2 u hu
  grind
theorem sX {sz:Nat} {xs:List (List AV)} {vs:List Value} (h:c4 μ sz xs vs) (n:Nat):c4 μ sz (xs.take n) (vs.take (n *sz)):=by
 induction n generalizing xs vs with
 |zero=>simp [c4]
 |succ n ih=>
  cases xs with
  |nil=>simp only [c4] at h;subst h;simp [c4]
  |cons x xs=>
   obtain ⟨us,ws,rfl,h1,h2,h3⟩:=h;refine ⟨us,ws.take (n *sz),?_,h1,h2,ih h3⟩;rw [show (n+1) *sz=us.length+n *sz from by rw [jl,h2];omega,FH]
theorem BP {sz:Nat} {xs:List (List AV)} {vs:List Value} (h:c4 μ sz xs vs) (n:Nat):c4 μ sz (xs.drop n) (vs.drop (n *sz)):=by
 induction n generalizing xs vs with
 |zero=>simp_all
 |succ n ih=>
  cases xs with
  |nil=>simp_all [c4]
  |cons x xs=>
   obtain ⟨us,ws,rfl,h1,h2,h3⟩:=h;rw [show (n+1) *sz=us.length+n *sz from by grind,FI];simp_all
theorem tn (hR:Rel N w0 μ0 L μ loc st a w) {v:SV} {u:Value} {sz:Nat} {xs:List (List AV)} (hel:elems st v=some (sz,xs)) (hv:gy μ loc v u):
  ∃A c,u= .slice A xs.length c∧∃us,c4 μ sz xs us∧(xs.length=0∨∃ad:Addr,A=some ad∧∀j x,us[j]? =some x→w.cell? (ad.add j)=some x):=by
 cases v with
 |pv v=>
  cases v with
  |eH s' zs=>
   obtain ⟨rfl,rfl⟩:=hel;obtain ⟨A,c,e1,_,_,h3⟩:=hv;rcases h3 with h0|⟨b,off,rfl,hrow⟩
   ·have :=lJ h0
    subst this;exact ⟨A,c,e1,[],rfl, .inl rfl⟩
   ·obtain ⟨us,k1,k2⟩:=tP hrow
    exact ⟨_,c,e1,us,k1, .inr ⟨_,rfl,fun j u hu=>by rw [add_lit];exact tD (hR.uI _ _ _ (k2 j u hu)) (lX k1 u (aT hu))⟩⟩
  |_=>simp [elems] at hel
 |row id'=>
  simp [elems] at hel;split at hel
  ·rename_i e' s' zs vD
   obtain ⟨rfl,rfl⟩:=hel;have hok:=hR.obs _ _ vD;have hb:=jf hok;obtain ⟨us,hown',I4,_⟩:=hok;have Hl:u=fM _:=hv;rcases hown'.2 with ⟨e1,e2⟩|⟨g,cap,cur,e1,_⟩
   ·grind
   ·exact ⟨_,cap,by simp_all,us,I4, .inr ⟨_,rfl,hown'.cells (g:=g) (by rw [e1];rfl)⟩⟩
  simp_all
 |sub id' s2 lo hi=>
  simp [elems] at hel;split at hel
  ·rename_i e' s' zs vD
   cases hq:Nat.beq s2 s' with
   |false=>simp_all
   |true=>
   rw [hq] at hel;obtain ⟨rfl,rfl⟩:=hel;obtain ⟨us,hown',I4,_⟩:=hR.obs _ _ vD;obtain ⟨A,n,c,A',c',h1,h2,h3,h4,h5,h6,h7⟩:=hv;have hn:n=zs.length:=by
    rcases hown'.2 with ⟨e1,e2⟩|⟨g,cap,cur,e1,_⟩<;>simp_all
   have hl:((zs.take hi).drop lo).length=hi-lo:=by simp;omega
   refine ⟨A',c',by simp_all,_,BP (sX I4 _) _,?_⟩;by_cases hlt:lo<hi
   ·obtain ⟨g,eA,eA'⟩:=h7 hlt
    have GR:=hown'.cells (by rw [h1,eA];rfl);simp_all [oB,add_lit]
   omega
  simp_all
 |_=>simp [elems] at hel
theorem FU (hR:Rel N w0 μ0 L μ loc st a w) {v:SV} {u:Value} {sz:Nat} {xs:List (List AV)} (h:elems st v=some (sz,xs)) (hv:gy μ loc v u):
  ∃A c,u= .slice A xs.length c:=by
 grind [tn]
theorem QI (hR:Rel N w0 μ0 L μ loc st a w) {v:SV} {u:Value} {n:Nat} (h:lenOf st v=some n) (hv:gy μ loc v u):∃A c,u= .slice A n c:=by
 unfold lenOf at h;split at h
 ·obtain ⟨A,c,e⟩:=FU hR rfl hv
  simp_all
 ·split at h
  ·rename_i e s xs dG
   injection h with h;subst h
   exact FU hR (sz:=s) (by simp [elems,dG]) hv
  ·rename_i e s k e' s' xs ys dG
   obtain ⟨m,us,vs,hl,_,hown,_⟩:=hR.obs _ _ dG;have e1:u=m:=(hv).trans (by rw [hl];rfl);rcases hown.2 with ⟨e2,e3⟩|⟨g,cap,cur,e2,_⟩
   ·simp_all
   simp_all
  grind
 grind
theorem iF {r:Nat} {es:Array MapEntry} {clock:Nat} (h:w.heap[r]? =some (.map es clock)):(getObj r).run P w= .ok (.map es clock) w:=by simp [getObj,Sem.run,h]
theorem Ji (hR:Rel N w0 μ0 L μ loc st a w) {v:SV} {u:Value} {ks vs:List AV} (h:maps st v=some (ks,vs)) (hv:gy μ loc v u):
  (u= .map none∧ks=[]∧vs=[])∨∃b cN clock,u= .map (some b)∧w.heap[b]? =some (.map cN clock)∧bV μ ks (cN.toList.map (·.key))∧bV μ vs (cN.toList.map (·.val)):=by
 unfold maps at h;split at h
 ·rcases hv with hv|⟨b,kv,ev,rfl,h1,h2,h3⟩
  ·simp_all
  ·obtain ⟨cN,clock,hh,rfl,rfl⟩:=see_map (hR.uI _ _ _ h3)
   simp_all
 ·rename_i id
  cases ho:st.ob id with
  |none=>simp_all
  |some o=>
   cases o with
   |box t cs=>simp_all
   |row e s ys=>simp_all
   |mr k e s ks' vs'=>simp_all
   |rn e s k e' s' xs ys=>simp_all
   |it s n=>simp_all
   |lp s=>simp_all
   |mp k e ks' vs'=>
    have hb:=U8 (hR.obs _ _ ho);obtain ⟨b,cN,clock,hl,_,hh,_,h1,h2,_⟩:=hR.obs _ _ ho;simp_all [gy]
 grind
def oh (P:Program) (μ:Mu) (loc:Nat→Value) (o:Oper) (sv:SV) (a:Act) (w:World):Prop:=
 ∃v,(execOp a.eval o).run P w= .ok (.value v) w∧gy μ loc sv v
theorem fh {o:Oper} {s:Sem Value} {sv:SV} (he:execOp a.eval o=(do pure (.value (←s)))) {v:Value} (hr:s.run P w= .ok v w) (hs:gy μ loc sv v):oh P μ loc o sv a w:=
 ⟨v,by simp_all,hs⟩
section
variable (hR:Rel N w0 μ0 L μ loc st a w)
include hR
theorem Ci {o:Oper} {x:Operand} {sv:SV} (ho:o.op= .move x∨o.op= .assign x) (h:bq P o.type st x=some sv):oh P μ loc o sv a w:=by
 refine ⟨_,?_,aU hR h⟩;rcases ho with ho|ho<;> · unfold execOp;simp_all
theorem Tn {o:Oper} {c x y:Operand} {sv:SV} (ho:o.op= .pick c x y) (h:e9 P o st=some sv):oh P μ loc o sv a w:=by
 unfold e9 at h;rw [ho] at h;simp at h;split at h
 ·rename_i t hc
  have hcv:=aU hR hc;simp [gy,rep] at hcv;cases t with
  |true=>
   refine ⟨_,?_,aU hR h⟩;simp_all [execOp,asBool]
  |false=>
   refine ⟨_,?_,aU hR h⟩;simp_all [execOp,asBool]
 grind
theorem XG {o:Oper} {op:BinOp} {t t':TypeId} {x y:Operand} {sv:SV} (ho:o.op= .binOp op t x y t') (h:e9 P o st=some sv):oh P μ loc o sv a w:=by
 unfold e9 at h;rw [ho] at h;simp at h;split at h
 ·rename_i u v hu hv
  cases hb:bin P op t u v with
  |none=>simp_all
  |some r=>
   simp [hb] at h;subst h;obtain ⟨z,hz,hr⟩:=Xc hb (fC hR hu) (fC hR hv);exact fh (by unfold execOp;rw [ho]) hz hr
 grind
theorem aad {o:Oper} {op:UnOp} {t:TypeId} {x:Operand} {sv:SV} (ho:o.op= .unOp op t x) (h:e9 P o st=some sv):oh P μ loc o sv a w:=by
 unfold e9 at h;rw [ho] at h;simp only [] at h;split at h
 ·rename_i u hu
  cases hb:un op u with
  |none=>simp [hb] at h
  |some r=>
   simp [hb] at h;subst h;obtain ⟨z,hz,hr⟩:=acI (P:=P) (w:=w) hb (fC hR hu);exact fh (by unfold execOp;rw [ho]) hz hr
 ·cases h
omit hR in
theorem Px {xs:List (List AV)} {bs:List UInt8} {us:List Value} (h:bytesOf xs=some bs) (hrc:c4 μ 1 xs us):∃ns:List Int,us=ns.map (Value.int .u8)∧bs=ns.map fun n=>UInt8.ofNat n.toNat:=by
 induction xs generalizing bs us with
 |nil=>simp only [bytesOf,aG] at h;subst h;have:us=[]:=hrc;subst this;exact ⟨[],rfl,rfl⟩
 |cons x xs ih=>
  obtain ⟨u1,ws,rfl,h1,h2,h3⟩:=hrc;unfold bytesOf at h;split at h
  ·rename_i h0;cases h0
  ·rename_i n l h0
   injection h0 with e1 e2;subst e1;subst e2
   cases hb:bytesOf xs with
   |none=>simp [hb] at h
   |some bs'=>
    simp [hb] at h;subst h;obtain ⟨ns,rfl,rfl⟩:=ih hb h3;have h11:=h1.1;rw [bV] at h11;obtain ⟨y,ys,rfl,hy,hys⟩:=h11;rw [bV] at hys;subst hys;rw [rep] at hy;subst hy;exact ⟨n::ns,by simp,by simp⟩
  ·cases h
omit hR in
theorem foldl_push (ns:List Int):ns.foldl (fun (r:ByteArray) n=>r.push (UInt8.ofNat n.toNat)) ByteArray.empty=⟨(ns.map fun n=>UInt8.ofNat n.toNat).toArray⟩:=by
 have key:∀(ns:List Int) (s:ByteArray),ns.foldl (fun (r:ByteArray) n=>r.push (UInt8.ofNat n.toNat)) s=⟨s.data++(ns.map fun n=>UInt8.ofNat n.toNat).toArray⟩:=by
  intro ns
  induction ns with
  |nil=>intro s;simp
  |cons n ns ih=>intro s;simp only [fR,ih];simp [ByteArray.push]
 rw [key];simp
theorem KU {o:Oper} {t t':TypeId} {x:Operand} {sv:SV} (ho:o.op= .convert t t' x) (h:e9 P o st=some sv):oh P μ loc o sv a w:=by
 unfold e9 at h;rw [ho] at h;simp only [] at h;split at h
 ·rename_i e hu hd
  split at h
  ·rename_i xs he hsz hx
   cases hb:bytesOf xs with
   |none=>simp [hb] at h
   |some bs=>
    simp [hb] at h;subst h;obtain ⟨sx,hsx,hel⟩:=dw.1 hx;obtain ⟨A,c,wM,us,hrc,hsrc⟩:=tn hR hel (aU hR hsx);obtain ⟨ns,Hi,hbs⟩:=Px hb hrc;have Hj:=dr hrc;refine fh (s:=convert t t' (a.eval x)) (by unfold execOp;rw [ho]) (v:= .string ⟨bs.toArray⟩) ?_ (by simp [gy,rep]);have e1:∀v:Value,(∃A n c,v= .slice A n c)→(convert t t' v).run P w=(Conv.bytesToString v).run P w:=by
     rintro v ⟨A,n,c,rfl⟩
     cases A<;>simp [convert,bz hu,bz hd,bz he]
    rw [wM,e1 _ ⟨_,_,_,rfl⟩];rcases hsrc with h0|⟨ad,rfl,hc⟩
    ·have:us=[]:=lJ (by rw [Hj,h0])
     subst this;have hn0:ns=[]:=by cases ns with
      |nil=>rfl
      |cons=>simp at Hi
     subst hn0;have hbs:bs=[]:=hbs;subst hbs;rw [h0];cases A with
     |none=>rfl
     |some ad=>
      have:=run_bytesToString (P:=P) w ad 0 c [] (by simpa using vF (P:=P) w ad [] (by simp));rw [this];rfl
    ·have hl:=vF (P:=P) w ad us hc
     have hlen:us.length=xs.length:=by rw [Hj];simp
     rw [hlen,Hi] at hl;rw [run_bytesToString w ad xs.length c ns hl,hbs,foldl_push]
  ·cases h
 ·rename_i d k hu hd
  split at h
  ·rename_i k' n hx
   injection h with h;subst h
   have hv:=fC hR hx;rw [rep] at hv;refine fh (s:=convert t t' (a.eval x)) (by unfold execOp;rw [ho]) (v:= .int k (k.wrap n)) ?_ (by simp [gy,rep]);rw [hv];simp [convert,bz hu,bz hd,Conv.intToInt]
  ·cases h
 ·rename_i d hne hu hd
  split at h
  ·rename_i s hx
   injection h with h;subst h
   have hv:=fC hR hx;rw [rep] at hv;refine fh (s:=convert t t' (a.eval x)) (by unfold execOp;rw [ho]) (v:= .string ⟨s.toArray⟩) ?_ (by simp [gy,rep]);rw [hv];simp [convert,bz hu,bz hd]
  ·cases h
 ·cases h
theorem zj {b:Bool} {acc r:AV} {l:List Operand} {u:Value} (h:mL P st b acc l=some r) (hu:rep μ acc u):
  ∃v,((l.map a.eval).foldlM (if b then Builtin.max2 else Builtin.min2) u).run P w= .ok v w∧rep μ r v:=by
 induction l generalizing acc u with
 |nil=>simp [mL] at h;simp_all
 |cons x l ih=>
  simp [mL] at h;split at h
  ·rename_i v hv
   split at h
   ·rename_i r' hr'
    have hx:=fC hR hv;unfold abX at hr';split at hr'
    ·grind [rep,Builtin.max2,Builtin.min2]
    ·rename_i s1 s2
     injection hr' with hr';subst hr'
     rw [rep] at hu hx;subst hu;obtain ⟨z,hz,hrz⟩:=ih h (u:= .string ⟨(bif b then (bif !(Op.bytesLess s1 s2) then s1 else s2) else (bif Op.bytesLess s1 s2||s1==s2 then s1 else s2)).toArray⟩) (by simp [rep]);refine ⟨z,?_,hrz⟩;rw [←hz];simp [aP,hx];cases b with
     |true=>
      cases hc:Op.bytesLess _ _<;>simp [Builtin.max2,Op.stringOp,asBool,hc]
     |false=>
      cases hc:Op.bytesLess _ _<;>cases hq:s1==s2<;>simp_all [Builtin.min2,Op.stringOp,asBool]
    simp_all
   grind
  grind
theorem FY {o:Oper} {c:Call} {sv:SV} (ho:o.op= .call c) (h:xm P c st=some sv):oh P μ loc o sv a w:=by
 obtain ⟨callee,⟨args⟩,⟨argTypes⟩⟩:=c;unfold xm at h;simp only [] at h;split at h
 ·rename_i x
  split at h
  ·rename_i t
   split at h
   ·rename_i s hu hx
    injection h with h;subst h
    have hv:=aU hR hx;simp only [gy,rep] at hv;refine ⟨.int .i64 s.length,?_,by rfl⟩;have hsz:(⟨s.toArray⟩:ByteArray).size=s.length:=rfl;unfold execOp;rw [ho];simp [resolve,invoke,builtin,Builtin.len_,bz hu,hv,goInt,hsz]
   ·rename_i e hu hx
    injection h with h;subst h
    have hv:=aU hR hx;simp only [gy,rep] at hv;refine ⟨.int .i64 0,?_,by rfl⟩;simp_all [execOp,resolve,invoke,builtin,Builtin.len_,bz,goInt]
   ·rename_i e id sz lo hi hu hx
    injection h with h;subst h
    obtain ⟨A,n,c,A',c',_,hlo,hhi,_,hv,_⟩:=aU hR hx;refine ⟨.int .i64 ((hi-lo:Nat):Int),?_,by rfl⟩;simp_all [execOp,resolve,invoke,builtin,Builtin.len_,bz,goInt]
   ·rename_i e v _ _ hu hx
    cases he:lenOf st v with
    |none=>simp_all
    |some y=>
     simp [he] at h;subst h;obtain ⟨A,c,hv⟩:=QI hR he (aU hR hx);refine ⟨.int .i64 y,?_,by rfl⟩;simp_all [execOp,resolve,invoke,builtin,Builtin.len_,bz,goInt]
   ·rename_i kt et v hu hx
    cases he:maps st v with
    |none=>simp_all
    |some y=>
     obtain ⟨ks,vs⟩:=y;simp [he] at h;subst h;refine ⟨.int .i64 ks.length,?_,by rfl⟩;unfold execOp;rw [ho];rcases Ji hR he (aU hR hx) with ⟨hv,rfl,rfl⟩|⟨b,cN,clock,hv,hh,h1,h2⟩
     ·simp_all [resolve,invoke,builtin,Builtin.len_,bz,goInt]
     ·have hlen:cN.size=ks.length:=by simpa using n9 h1
      simp [resolve,invoke,builtin,Builtin.len_,bz hu,hv,goInt,iF hh,hlen]
   grind
  grind
 ·rename_i x l
  split at h
  ·rename_i v hv
   cases hm:mL P st true v l with
   |none=>simp_all
   |some r=>
    simp [hm] at h;subst h;obtain ⟨z,hz,hrz⟩:=zj hR hm (fC hR hv);refine ⟨z,?_,hrz⟩;simp_all [execOp,fN,resolve,invoke,builtin,Builtin.max_]
  grind
 ·rename_i x l
  split at h
  ·rename_i v hv
   cases hm:mL P st false v l with
   |none=>simp_all
   |some r=>
    simp [hm] at h;subst h;obtain ⟨z,hz,hrz⟩:=zj hR hm (fC hR hv);refine ⟨z,?_,hrz⟩;simp_all [execOp,resolve,invoke,builtin,Builtin.min_]
  grind
 grind
omit hR in
theorem FV {t:TypeId} {f:Nat} {fd:Field} (h:vQ P t f=some fd):∃fs,P.underlying t=some (.struct fs)∧fs[f]? =some fd:=by
 unfold vQ at h;split at h
 ·rename_i fs hu;exact ⟨fs,hu,h⟩
 ·cases h
theorem GN {o:Oper} {t:TypeId} {x:Operand} {f:Nat} {sv:SV} (ho:o.op= .fieldAddr t x f) (h:e9 P o st=some sv):oh P μ loc o sv a w:=by
 unfold e9 at h;rw [ho] at h;simp at h;split at h
 ·rename_i fd hf
  obtain ⟨fs,hu,hfs⟩:=FV hf;split at h
  ·cases h
  ·have run:∀ad:Addr,(Instr.fieldAt t (.pointer (some ad)) f).run P w= .ok (.pointer (some (ad.add fd.offset))) w:=fun ad=>by
    simp_all [Instr.fieldAt,bz,Instr.sureAddr,fieldPlace,kI]
   split at h
   ·rename_i id off hx
    injection h with h;subst h
    obtain ⟨b,hl,hv⟩:=aU hR hx;refine fh (by unfold execOp;rw [ho]) (by rw [hv];exact run _) ?_;exact ⟨b,hl,by rw [add_lit]⟩
   ·rename_i cs hx
    injection h with h;subst h
    obtain ⟨b,off,vs,hv,hc,hm⟩:=aU hR hx;refine fh (by unfold execOp;rw [ho]) (by rw [hv];exact run _) ?_;refine ⟨b,_,_,by rw [add_lit],hc.drop _,fun j v hj=> ?_⟩
    grind
   ·rename_i cs hx
    injection h with h;subst h
    have hx':=aU hR hx;obtain ⟨b,off,vs,hv,hc1,Pb,hm⟩:=hx';have hc:ku _ _ _:=⟨hc1,Pb⟩
    refine fh (by unfold execOp;rw [ho]) (by rw [hv];exact run _) ?_;refine ⟨b,_,_,by rw [add_lit],hc.drop _,fun j v hj=> ?_⟩
    grind
   ·rename_i id sz i off hx
    injection h with h;subst h
    obtain ⟨g,n',c,hl,hv⟩:=aU hR hx;refine fh (by unfold execOp;rw [ho]) (by rw [hv];exact run _) ?_;exact ⟨g,n',c,hl,by rw [add_lit,kB]⟩
   grind
  grind
 grind
theorem IV {o:Oper} {x:Operand} {sv:SV} (ho:o.op= .nilCheck x) (h:e9 P o st=some sv):oh P μ loc o sv a w:=by
 unfold e9 at h;simp [ho] at h;have hs:bq P 0 st x=some sv∧∃p,a.eval x= .pointer (some p):=by
  split at h
  ·rename_i id off hx;have:=aU hR hx;grind [gy]
  ·rename_i cs hx;have:=aU hR hx;grind [gy]
  ·rename_i cs hx;have:=aU hR hx;grind [gy,rep]
  ·rename_i id sz i off hx;have:=aU hR hx;grind [gy]
  ·cases h
 obtain ⟨hx,p,he⟩:=hs;refine fh (s:=pure _) ?_ rfl (aU hR hx);simp [execOp,ho,he]
theorem Qj {o:Oper} {t:TypeId} {x:Operand} {f:Nat} {sv:SV} (ho:o.op= .field t x f) (h:e9 P o st=some sv):oh P μ loc o sv a w:=by
 unfold e9 at h;rw [ho] at h;simp at h;split at h
 ·rename_i fd cs hf hx
  obtain ⟨fs,hu,hfs⟩:=FV hf;cases hT:iS P fd.type (cs.drop fd.offset) with
  |none=>simp_all
  |some y=>
   simp [hT] at h;subst h;have hv:=fC hR hx;obtain ⟨vs,hv,h1,h2⟩:=hv;obtain ⟨v,hr,yH⟩:=JP (w:=w) _ hT ⟨h1,h2⟩;refine fh (by unfold execOp;rw [ho]) ?_ yH;simp_all [Instr.field,bz,asAgg]
 grind
theorem GQ {o:Oper} {t:TypeId} {x ix:Operand} {sv:SV} (ho:o.op= .indexAddr t x ix) (h:e9 P o st=some sv):oh P μ loc o sv a w:=by
 unfold e9 at h;rw [ho] at h;simp only [] at h;split at h
 ·rename_i n e hu
  unfold Cm at h;split at h
  ·rename_i s id off k i hsz hx hi
   split at h
   ·rename_i hc
    obtain ⟨h0,hlt,hpos⟩:=hc;injection h with h;subst h
    have hiv:=aU hR hi;simp only [gy,rep] at hiv;obtain ⟨b,hl,hv⟩:=aU hR hx;refine fh (s:=Instr.indexAt t (a.eval x) (a.eval ix)) (by unfold execOp;rw [ho]) (v:= .pointer (some ((⟨b,off,none⟩:Addr).add (i.toNat *s)))) ?_ ?_
    ·rw [hv,hiv]
     have:=kI hsz w;simp [Instr.indexAt,asIntOf,bz hu,Instr.sureAddr,h0,hlt,this]
    ·exact ⟨b,hl,by rw [add_lit]⟩
   ·cases h
  ·rename_i s id sz j off k i hsz hx hi
   split at h
   ·rename_i hc
    obtain ⟨h0,hlt,hpos⟩:=hc;injection h with h;subst h
    have hiv:=aU hR hi;simp only [gy,rep] at hiv;obtain ⟨g,m,c,hl,hv⟩:=aU hR hx;refine fh (s:=Instr.indexAt t (a.eval x) (a.eval ix)) (by unfold execOp;rw [ho]) (v:= .pointer (some ((⟨g,j *sz+off,none⟩:Addr).add (i.toNat *s)))) ?_ ?_
    ·rw [hv,hiv]
     have:=kI hsz w;simp [Instr.indexAt,asIntOf,bz hu,Instr.sureAddr,h0,hlt,this]
    ·exact ⟨g,m,c,hl,by rw [add_lit,kB]⟩
   ·cases h
  ·rename_i s cs k i hsz hx hi
   split at h
   ·rename_i hc
    obtain ⟨h0,hlt,hpos⟩:=hc;injection h with h;subst h
    have hiv:=aU hR hi;simp only [gy,rep] at hiv;obtain ⟨b,off,vs,hv,hcs,hm⟩:=aU hR hx;refine fh (s:=Instr.indexAt t (a.eval x) (a.eval ix)) (by unfold execOp;rw [ho]) (v:= .pointer (some ((⟨b,off,none⟩:Addr).add (i.toNat *s)))) ?_ ?_
    ·rw [hv,hiv]
     have:=kI hsz w;simp [Instr.indexAt,asIntOf,bz hu,Instr.sureAddr,h0,hlt,this]
    ·exact ⟨b,_,_,by rw [add_lit],hcs.drop _,fun q u hq=>by rw [s5] at hq;have:=hm _ _ hq;rwa [←kB] at this⟩
   ·cases h
  ·cases h
 unfold wV at h;split at h
 ·rename_i e s sz xs k i hs hx hi
  obtain ⟨hu,inf,nE,hsz⟩:=gA hs;split at h
  ·rename_i hc
   obtain ⟨rfl,h0⟩:=hc;cases hg:xs[i.toNat]? with
   |none=>simp [hg] at h
   |some y=>
    simp [hg] at h;subst h;have hlt:i.toNat<xs.length:=(bD.1 hg).1;have hv:=aU hR hx;have hiv:=aU hR hi;simp only [gy,rep] at hv hiv;obtain ⟨A,c,hv,hlc,hcm,hrow⟩:=hv;rcases hrow with hz|⟨b,off,rfl,hrow⟩
    ·omega
    ·obtain ⟨vs,hc1,Pb,hc3⟩:=CA hrow hg
     refine fh (s:=Instr.indexAt t (a.eval x) (a.eval ix)) (by unfold execOp;rw [ho]) (v:= .pointer (some ((⟨b,off,none⟩:Addr).add (i.toNat *s)))) ?_ ?_
     ·rw [hv,hiv]
      have hlt':i<(xs.length:Int):=by omega
      simp [Instr.indexAt,asIntOf,bz hu,h0,hlt',sizeOf,typeInfo,nE,hsz]
     ·refine ⟨b,off+i.toNat *s,vs,by rw [add_lit],hc1,hc3⟩
  ·cases h
 ·rename_i e s id k i hs hx hi
  obtain ⟨hu,inf,nE,hsz⟩:=gA hs;split at h
  ·rename_i e' sz xs dG
   split at h
   ·rename_i hc
    obtain ⟨rfl,h0,hlt⟩:=hc;injection h with h;subst h
    have hv:=aU hR hx;have hiv:=aU hR hi;simp only [gy,rep] at hv hiv;rw [jf (hR.obs id _ dG)] at hv;obtain ⟨vs,hown,hrc,_⟩:=hR.obs id _ dG;obtain ⟨g,cap,nQ,_⟩:∃g cap,loc id= .slice (some ⟨g,0,none⟩) xs.length cap∧True:=by
     rcases hown.2 with ⟨_,e2⟩|⟨g,cap,cur,e1,_⟩
     ·omega
     ·exact ⟨g,cap,e1,trivial⟩
    refine fh (s:=Instr.indexAt t (a.eval x) (a.eval ix)) (by unfold execOp;rw [ho]) (v:= .pointer (some ((⟨g,0,none⟩:Addr).add (i.toNat *s)))) ?_ ?_
    ·rw [hv,hiv,nQ]
     have hlt':i<(xs.length:Int):=by omega
     simp [Instr.indexAt,asIntOf,bz hu,h0,hlt',sizeOf,typeInfo,nE,hsz]
    ·exact ⟨g,_,cap,by rw [nQ];rfl,by rw [add_lit];simp⟩
   ·cases h
  ·rename_i e' sz k e2 s2 xs ys dG
   split at h
   ·rename_i hc
    obtain ⟨rfl,h0,hlt⟩:=hc;injection h with h;subst h
    have hv:=aU hR hx;have hiv:=aU hR hi;simp only [gy,rep] at hv hiv;obtain ⟨m,us,vs,hl,_,hown,_⟩:=hR.obs id _ dG;rw [hl] at hv
    replace hv:a.eval x=m:=hv
    obtain ⟨g,cap,nQ,_⟩:∃g cap,m= .slice (some ⟨g,0,none⟩) xs.length cap∧True:=by
     rcases hown.2 with ⟨_,e2⟩|⟨g,cap,cur,e1,_⟩
     ·omega
     ·exact ⟨g,cap,e1,trivial⟩
    refine fh (s:=Instr.indexAt t (a.eval x) (a.eval ix)) (by unfold execOp;rw [ho]) (v:= .pointer (some ((⟨g,0,none⟩:Addr).add (i.toNat *s)))) ?_ ?_
    ·rw [hv,hiv,nQ]
     have hlt':i<(xs.length:Int):=by omega
     simp [Instr.indexAt,asIntOf,bz hu,h0,hlt',sizeOf,typeInfo,nE,hsz]
    ·exact ⟨g,_,cap,by rw [hl];exact nQ,by rw [add_lit];simp⟩
   ·cases h
  ·cases h
 ·rename_i e s id sz lo hi' k i hs hx hi
  obtain ⟨hu,inf,nE,hsz⟩:=gA hs;split at h
  ·rename_i hc
   obtain ⟨rfl,h0,hlt⟩:=hc;injection h with h;subst h
   have hiv:=aU hR hi;simp only [gy,rep] at hiv;obtain ⟨A,n,c,A',c',nQ,hlo,hhi,uB,hv,_,hg⟩:=aU hR hx;obtain ⟨g,rfl,rfl⟩:=hg (by omega);refine fh (s:=Instr.indexAt t (a.eval x) (a.eval ix)) (by unfold execOp;rw [ho]) (v:= .pointer (some ((⟨g,lo *s,none⟩:Addr).add (i.toNat *s)))) ?_ ?_
   ·rw [hv,hiv]
    have hlt':i<((hi'-lo:Nat):Int):=by omega
    simp only [Instr.indexAt,asIntOf,fQ,bz hu,kC,gC];simp [h0,hlt',sizeOf,typeInfo,nE,hsz]
   ·exact ⟨g,_,c,by rw [nQ];rfl,by rw [add_lit];simp [jl]⟩
  ·cases h
 ·cases h
theorem Qk {o:Oper} {t:TypeId} {x ix:Operand} {sv:SV} (ho:o.op= .index t x ix) (h:e9 P o st=some sv):oh P μ loc o sv a w:=by
 unfold e9 at h;rw [ho] at h;simp at h;split at h
 ·rename_i s k i hu hx hi
  split at h
  ·cases hg:s[i.toNat]? with
   |none=>simp_all
   |some b=>
    simp [hg] at h;subst h;have hv:=aU hR hx;have hiv:=aU hR hi;simp [gy,rep] at hv hiv;refine fh (by unfold execOp;rw [ho]) ?_ (by rfl);have hlt:=(bD.1 hg)
    obtain ⟨hl,hb⟩:=hlt;have:(⟨s.toArray⟩:ByteArray)[i.toNat]? =some b:=by
     rw [getElem?_pos _ _ _];show some s.toArray[i.toNat]=some b;simp [hb]
    simp_all [Instr.index,asIntOf,bz]
  grind
 grind
theorem Tm {o:Oper} {t:TypeId} {x:Operand} {sv:SV} (ho:o.op= .load t x) (h:e9 P o st=some sv):oh P μ loc o sv a w:=by
 have start:∀(ad:Addr),a.eval x= .pointer (some ad)→∀v,(loadVar t ad).run P w= .ok v w→∀sv,gy μ loc sv v→oh P μ loc o sv a w:=fun ad hv v hr sv hs=>
  fh (s:=Instr.loadAt t (a.eval x)) (by unfold execOp;rw [ho]) (v:=v) (by simp_all [Instr.loadAt,Instr.sureAddr]) hs
 unfold e9 at h;rw [ho] at h;simp only [] at h;split at h
 ·rename_i cs hx
  cases hT:iS P t cs with
  |none=>simp_all
  |some y=>
   simp [hT] at h;subst h;obtain ⟨b,off,vs,hv,hc,hm⟩:=aU hR hx;obtain ⟨v,hr,yH⟩:=rT (w:=w) (ad:=⟨b,off,none⟩) hT hc (fun j u hu=>by rw [add_lit];exact tD (hR.uI _ _ _ (hm j u hu)) (hc.2 u (aT hu)));exact start _ hv v hr _ yH
 ·rename_i cs hx
  cases hT:iS P t cs with
  |none=>simp_all
  |some y=>
   simp [hT] at h;subst h;have hx':=aU hR hx;simp only [gy,rep] at hx';obtain ⟨b,off,vs,hv,hc1,Pb,hm⟩:=hx';have hc:ku μ cs vs:=⟨hc1,Pb⟩
   obtain ⟨v,hr,yH⟩:=rT (w:=w) (ad:=⟨b,off,none⟩) hT hc (fun j u hu=>by rw [add_lit];exact tD (hR.uI _ _ _ (hm j u hu)) (hc.2 u (aT hu)));exact start _ hv v hr _ yH
 ·rename_i id sz i off hx
  split at h
  ·rename_i e sz' xs dG
   split at h
   ·rename_i hsz;subst hsz
    cases hg:xs[i]? with
    |none=>simp_all
    |some c=>
     cases hT:iS P t (c.drop off) with
     |none=>simp_all
     |some y=>
      simp [hg,hT] at h;subst h;obtain ⟨g,n,cp,hl,hv⟩:=aU hR hx;rw [jf (hR.obs id _ dG)] at hl;obtain ⟨vs,hown,hrc,_⟩:=hR.obs id _ dG;obtain ⟨us,hc1,Pb,hc3⟩:=NR hrc hg;have hcells:=hown.cells (g:=g) (by rw [hl];rfl)
      obtain ⟨v,hr,yH⟩:=rT (w:=w) (ad:=⟨g,i *sz+off,none⟩) hT (hc1.drop off) (fun j u hu=>by
       rw [s5] at hu;have:=hcells _ _ (hc3 _ _ hu);rw [add_lit] at this⊢
       rwa [show 0+(i *sz+(off+j))=i *sz+off+j from by omega] at this)
      exact start _ hv v hr _ yH
   grind
  ·rename_i e sz' k e' s' xs ys dG
   split at h
   ·rename_i hc
    obtain ⟨rfl,rfl,hi,hagg⟩:=hc;injection h with h;subst h
    obtain ⟨g,n,cp,hl,hv⟩:=aU hR hx;obtain ⟨m,us,vs,IY,hm,hown,hrc,hk,h2,h3,h4,h5,h6,h7⟩:=hR.obs id _ dG;have vB:m= .slice (some ⟨g,0,none⟩) n cp:=by rw [IY] at hl;exact hl
    have hcells:=hown.cells (g:=g) (by rw [vB];rfl);have hlt:i *sz+off<vs.length:=by
     rw [dr hrc];have:=lN sz (show i+1≤xs.length from hi);rw [jl,Nat.one_mul] at this;have:=hk.1;omega
    obtain ⟨u,hu⟩:∃u,vs[i *sz+off]? =some u:=⟨vs[i *sz+off],aH hlt⟩
    have hcu:=hcells _ _ hu;rw [add_lit,gE] at hcu;refine start _ hv u (by simp_all [loadVar,qX]) _ ?_;refine ⟨m,us,IY,⟨_,_,_,vB⟩,fun x hx=> ?_⟩;cases hy:ys[i]? with
    |none=>simp_all
    |some y=>
     cases y with
     |none=>grind
     |some zs=>
      grind
   grind
  grind
 ·rename_i id off hx
  obtain ⟨b,hl,hv⟩:=aU hR hx;split at h
  ·rename_i bt cells dG
   obtain ⟨b',vs,hl',hnF,hheap,tR,hss,h1⟩:=hR.obs id _ dG;rw [hl] at hl';simp only [zG,aG,zH,fO] at hl';subst hl';have hcell:∀j,w.cell? ⟨b,j,none⟩=vs[j]? :=fun j=>by rw [cell_of_row w b j vs.toArray bt _ hheap];simp
   split at h
   ·split at h
    ·obtain ⟨v,KY,hr⟩:=LS hss h
     simp_all [loadVar,qX]
    grind
   ·split at h
    ·rename_i n hsz
     split at h
     ·have hss':=CC (CB hss off) n
      have hlen:=pY hss;have IY:((vs.drop off).take n).length=n:=by simp;omega
      have hr:=vF (P:=P) w ⟨b,off,none⟩ ((vs.drop off).take n) (fun j v hj=>by
       simp_all [add_lit,oB])
      cases hp:om ((cells.drop off).take n) with
      |none=>
       simp [hp,bS] at h;obtain ⟨ks,hk,rfl⟩:=h;refine start _ hv (.agg ((vs.drop off).take n).toArray) ?_ _ ?_
       ·simp_all [loadVar,qX,kI]
       ·exact ⟨_,rfl,Pu hk hss',fun u hu=>h1 u (yt (BY hu))⟩
      |some cs=>
       simp [hp] at h;subst h;refine start _ hv (.agg ((vs.drop off).take n).toArray) ?_ _ ?_
       ·simp_all [loadVar,qX,kI]
       ·exact ⟨_,rfl,FP hp hss',fun u hu=>h1 u (yt (BY hu))⟩
     grind
    grind
   grind
  grind
 grind
theorem jr {lo:Option Operand} {lv:Option SV} {d y r:Nat} (hl:nG P st lo=some lv) (h:iz lv d y=some r) (code:BoundsCode):
  (lo=none∧r=d)∨∃x,lo=some x∧(Instr.sliceBound (a.eval x) y code).run P w= .ok r w∧r≤y:=by
 cases lo with
 |none=>
  simp [nG,aG] at hl;subst hl;simp [iz] at h;simp_all
 |some x=>
  simp [nG] at hl;cases hx:bq P 0 st x with
  |none=>simp_all
  |some sv=>
   simp [hx] at hl;subst hl;have hv:=aU hR hx;cases sv with
   |pv v=>
    cases v with
    |int k i=>
     simp only [iz] at h;split at h
     ·injection h with h;subst h
      simp [gy,rep] at hv;simp_all [Instr.sliceBound,asIntOf]
     grind
    |_=>simp [iz] at h
   |_=>simp [iz] at h
omit hR in
theorem DH (s:List UInt8) (l h:Nat) (hl:l≤h) (hh:h≤s.length):(⟨s.toArray⟩:ByteArray).extract l h=⟨((s.take h).drop l).toArray⟩:=by
 apply ByteArray.ext;simp [ByteArray.data_extract,List.extract_eq_take_drop,FJ]
theorem NV {t e:TypeId} {s:Nat} {x:Operand} {lo hi:Option Operand} {lv hv:Option SV} {A:Option Addr} {m c hh l:Nat} (hu:P.underlying t=some (.slice e)) (hsz:lq P e=some s) (wM:a.eval x= .slice A m c) (hlc:m≤c)
  (hlo:nG P st lo=some lv) (hhi:nG P st hi=some hv) (Hf:iz hv m m=some hh) (wC:iz lv 0 hh=some l):
  (Instr.sliceAt t (a.eval x) (lo.map a.eval) (hi.map a.eval) none).run P w= .ok (.slice (if c=l then A else A.map (·.add (l *s))) (hh-l) (c-l)) w:=by
 obtain ⟨inf,nE,hs⟩:∃i,P.info? e=some i∧i.size=s:=by
  unfold lq at hsz;cases hi:P.info? e with
  |none=>simp [hi] at hsz
  |some i=>exact ⟨i,rfl,by simpa [hi] using hsz⟩
 have hcap:hh≤m:=by
  rcases jr hR hhi Hf .sliceAcap with ⟨_,e⟩|⟨_,_,_,e⟩<;>omega
 have hlh:l≤hh:=by
  rcases jr hR hlo wC .sliceB with ⟨_,e⟩|⟨_,_,_,e⟩<;>omega
 have hhi':hi=none∧hh=m∨∃y,hi=some y∧(Instr.sliceBound (a.eval y) c .sliceAcap).run P w= .ok hh w:=by
  cases hi with
  |none=>
   rcases jr hR hhi Hf .sliceAcap with ⟨_,e⟩|⟨_,e,_⟩
   ·exact .inl ⟨rfl,e⟩
   ·cases e
  |some y=>
   refine .inr ⟨y,rfl,?_⟩;simp only [nG] at hhi;cases hy:bq P 0 st y with
   |none=>simp [hy] at hhi
   |some sv'=>
    simp [hy] at hhi;subst hhi;have Hl:=aU hR hy;cases sv' with
    |pv v=>
     cases v with
     |int k i=>
      simp only [iz] at Hf;split at Hf
      ·rename_i hc
       injection Hf with Hf;subst Hf
       simp only [gy,rep] at Hl;rw [Hl];have:i≤(c:Int):=by omega
       simp [Instr.sliceBound,asIntOf,hc.1,this]
      ·cases Hf
     |_=>simp [iz] at Hf
    |_=>simp [iz] at Hf
 rw [wM];rcases hhi' with ⟨rfl,rfl⟩|⟨xh,rfl,rh⟩<;>
 rcases jr hR hlo wC .sliceB with ⟨rfl,rfl⟩|⟨xl,rfl,rl,_⟩<;>
 simp [Instr.sliceAt,Instr.slice,bz hu,Instr.sliceBounds,sizeOf,typeInfo,nE, *]
theorem Ln {lo hi:Option Operand} {lv hv:Option SV} {m hh l:Nat} (hlo:nG P st lo=some lv) (hhi:nG P st hi=some hv) (Hf:iz hv m m=some hh) (wC:iz lv 0 hh=some l):hh≤m∧l≤hh:=by
 constructor
 ·rcases jr hR hhi Hf .sliceAcap with ⟨_,e⟩|⟨_,_,_,e⟩<;>omega
 ·rcases jr hR hlo wC .sliceB with ⟨_,e⟩|⟨_,_,_,e⟩<;>omega
theorem Ql {o:Oper} {t:TypeId} {x:Operand} {lo hi:Option Operand} {sv:SV} (ho:o.op= .slice t x lo hi none) (h:e9 P o st=some sv):oh P μ loc o sv a w:=by
 unfold e9 at h;rw [ho] at h;simp only [] at h;split at h
 ·rename_i s lv hv hu hx hlo hhi
  split at h
  ·rename_i hh Hf
   cases wC:iz lv 0 hh with
   |none=>simp [wC] at h
   |some l=>
    simp [wC] at h;subst h;have wM:=aU hR hx;simp only [gy,rep] at wM;have hcap:hh≤s.length:=by
     rcases jr hR hhi Hf .sliceAlen with ⟨_,e⟩|⟨_,_,_,e⟩<;>omega
    have hlh:l≤hh:=by
     rcases jr hR hlo wC .sliceB with ⟨_,e⟩|⟨_,_,_,e⟩<;>omega
    refine fh (s:=Instr.sliceAt t (a.eval x) (lo.map a.eval) (hi.map a.eval) none) (by unfold execOp;rw [ho];rfl) (v:= .string ⟨((s.take hh).drop l).toArray⟩) ?_ (by simp [gy,rep]);rw [wM];have hsz:(⟨s.toArray⟩:ByteArray).size=s.length:=by simp [ByteArray.size]
    have hex:=DH s l hh hlh hcap;rcases jr hR hhi Hf .sliceAlen with ⟨rfl,rfl⟩|⟨xh,rfl,rh,_⟩<;>
    rcases jr hR hlo wC .sliceB with ⟨rfl,rfl⟩|⟨xl,rfl,rl,_⟩<;>
    simp_all [Instr.sliceAt,Instr.slice,bz hu,Instr.sliceBounds]
  ·cases h
 ·rename_i e sz xs lv hv hu hx hlo hhi
  split at h
  ·rename_i e' s hh hs Hf
   obtain ⟨GV,inf,nE,hsz⟩:=gA hs;rw [hu] at GV;injection GV with GV;injection GV with GV;subst GV
   split at h
   ·rename_i e;subst e
    cases wC:iz lv 0 hh with
    |none=>simp [wC] at h
    |some l=>
     simp [wC] at h;subst h;have wM:=aU hR hx;simp only [gy,rep] at wM;obtain ⟨A,c,wM,hlc,hcm,hrow⟩:=wM;have hcap:hh≤xs.length:=by
      rcases jr hR hhi Hf .sliceAcap with ⟨_,e⟩|⟨_,_,_,e⟩<;>omega
     have hlh:l≤hh:=by
      rcases jr hR hlo wC .sliceB with ⟨_,e⟩|⟨_,_,_,e⟩<;>omega
     refine fh (s:=Instr.sliceAt t (a.eval x) (lo.map a.eval) (hi.map a.eval) none) (by unfold execOp;rw [ho];rfl)
      (v:= .slice (if c=l then A else A.map (·.add (l *s))) (hh-l) (c-l)) ?_ ?_
     ·exact NV hR hu (by rw [lq,nE];simp [hsz]) wM hlc hlo hhi Hf wC
     ·show rep μ (.eH s ((xs.take hh).drop l)) _
      rw [rep];have hlen:((xs.take hh).drop l).length=hh-l:=by simp;omega
      refine ⟨_,_,by rw [hlen],by omega,by omega,?_⟩;rcases hrow with hz|⟨b,off,rfl,hrow⟩
      ·exact .inl (by omega)
      ·by_cases hc:c=l
       ·exact .inl (by omega)
       ·refine .inr ⟨b,off+l *s,by rw [ak hc];simp [add_lit],?_⟩
        exact RB (RC hrow hh) l (by simp;omega)
   ·cases h
  ·cases h
 ·rename_i e id lv hv hu hx hlo hhi
  split at h
  ·rename_i e' s e2 sz xs hs dG
   obtain ⟨GV,inf,nE,hsz⟩:=gA hs;rw [hu] at GV;injection GV with GV;injection GV with GV;subst GV
   split at h
   ·rename_i hh Hf
    split at h
    ·rename_i e;subst e
     cases wC:iz lv 0 hh with
     |none=>simp [wC] at h
     |some l=>
      simp [wC] at h;subst h;have wM:a.eval x=loc id:=(aU hR hx:a.eval x=fM (loc id)).trans (jf (hR.obs id _ dG));obtain ⟨hcap,hlh⟩:=Ln hR hlo hhi Hf wC;obtain ⟨vs,hown,hrc,_⟩:=hR.obs id _ dG;obtain ⟨A,c,nQ,hlc,hA⟩:∃A c,loc id= .slice A xs.length c∧xs.length≤c∧(0<xs.length→∃g,A=some ⟨g,0,none⟩):=by
       rcases hown.2 with ⟨e1,e2⟩|⟨g,cap,cur,e1,h2,h3,h4⟩
       ·exact ⟨none,0,by rw [e1,e2],by omega,by omega⟩
       ·exact ⟨_,cap,e1,h4.1,fun _=>⟨g,rfl⟩⟩
      refine fh (s:=Instr.sliceAt t (a.eval x) (lo.map a.eval) (hi.map a.eval) none) (by unfold execOp;rw [ho];rfl)
       (v:= .slice (if c=l then A else A.map (·.add (l *s))) (hh-l) (c-l)) (NV hR hu (by rw [lq,nE];simp [hsz]) (wM.trans nQ) hlc hlo hhi Hf wC) ?_
      refine ⟨A,_,c,_,_,nQ,hlh,hcap,by omega,rfl,fun e=> ?_,fun hlt=> ?_⟩
      ·subst e
       refine ⟨?_,by omega⟩;cases A<;>simp [add_zero']
      ·obtain ⟨g,rfl⟩:=hA (by omega)
       refine ⟨g,rfl,?_⟩;rw [ak (by omega)];simp [add_lit]
    ·cases h
   ·cases h
  ·cases h
 ·rename_i e id sz a' b' lv hv hu hx hlo hhi
  split at h
  ·rename_i e' s hh hs Hf
   obtain ⟨GV,inf,nE,hsz⟩:=gA hs;rw [hu] at GV;injection GV with GV;injection GV with GV;subst GV
   split at h
   ·rename_i e;subst e
    cases wC:iz lv 0 hh with
    |none=>simp [wC] at h
    |some l=>
     simp [wC] at h;subst h;obtain ⟨A,n,c,A',c',nQ,hl1,IY,uB,wM,hz,hg⟩:=aU hR hx;obtain ⟨hcap,hlh⟩:=Ln hR hlo hhi Hf wC;refine fh (s:=Instr.sliceAt t (a.eval x) (lo.map a.eval) (hi.map a.eval) none) (by unfold execOp;rw [ho];rfl)
      (v:= .slice (if c'=l then A' else A'.map (·.add (l *s))) (hh-l) (c'-l)) (NV hR hu (by rw [lq,nE];simp [hsz]) wM uB hlo hhi Hf wC) ?_
     refine ⟨A,_,c,(if c'=l then A' else A'.map (·.add (l *s))),c'-l,nQ,by omega,by omega,by omega,by rw [show a'+hh-(a'+l)=hh-l from by omega],fun e=> ?_,fun hlt=> ?_⟩
     ·obtain ⟨rfl,rfl⟩:a'=0∧l=0:=by omega
      obtain ⟨rfl,rfl⟩:=hz rfl;refine ⟨?_,by omega⟩;cases A'<;>simp [add_zero']
     ·obtain ⟨g,rfl,rfl⟩:=hg (by omega)
      refine ⟨g,rfl,?_⟩;rw [ak (by omega)];simp [add_lit,jl]
   ·cases h
  ·cases h
 ·cases h
theorem KV {o:Oper} {x:Operand} {i:Nat} {sv:SV} (ho:o.op= .extract x i) (h:e9 P o st=some sv):oh P μ loc o sv a w:=by
 unfold e9 at h;rw [ho] at h;simp at h;split at h
 ·rename_i vs hx
  cases hg:vs[i]? with
  |none=>simp_all
  |some y=>
   simp [hg] at h;subst h;have hv:=aU hR hx;obtain ⟨us,hv,hall⟩:=hv;obtain ⟨u,hu,hr⟩:=sJ hall hg;refine fh (by unfold execOp;rw [ho]) ?_ hr;simp_all [Instr.extract]
 ·rename_i v b hx
  obtain ⟨u,hv,hr⟩:=aU hR hx;split at h
  ·injection h with h;subst h
   refine fh (by unfold execOp;rw [ho]) ?_ hr;rw [hv];rfl
  ·injection h with h;subst h
   refine fh (by unfold execOp;rw [ho]) ?_ (by rfl);rw [hv];rfl
  grind
 grind
omit hR in
theorem AR {ts:List TypeId} {vs:List Value} {cs:List AV} (h:nN P ts vs=some cs):ku μ cs vs:=by
 induction ts generalizing vs cs with
 |nil=>
  cases vs with
  |nil=>simp [nN] at h;subst h;exact ⟨ef,by simp⟩
  |cons v vs=>simp [nN] at h
 |cons t ts ih=>
  cases vs with
  |nil=>simp [nN] at h
  |cons v vs=>
   simp only [nN] at h;split at h
   ·rename_i x xs hx hxs
    injection h with h;subst h
    have hr:=vY (P:=P) (μ:=μ) hx;have k:=ih hxs;refine ⟨bY hr k.1,fun u hu=> ?_⟩;rcases aD.1 hu with rfl|hu
    ·unfold ofConst at hx
     split at hx<;>first|rfl|(cases hx)
    ·exact k.2 u hu
   ·cases h
omit hR in
theorem R9 {ts:List TypeId} {vs:List Value} {cs:List AV} (h:nN P ts vs=some cs) {k s:Nat} (hk:cs[k]? =some (.eH s [])):∃v,vs[k]? =some v∧v= .slice none 0 0:=by
 induction ts generalizing vs cs k with
 |nil=>
  cases vs with
  |nil=>simp [nN] at h;subst h;simp at hk
  |cons v vs=>simp [nN] at h
 |cons t ts ih=>
  cases vs with
  |nil=>simp [nN] at h
  |cons v vs=>
   simp only [nN] at h;split at h
   ·rename_i x xs hx hxs
    injection h with h;subst h
    cases k with
    |zero=>
     simp at hk;subst hk;refine ⟨v,rfl,?_⟩;unfold ofConst at hx;split at hx
     ·cases hx
     ·cases hx
     ·cases hx
     ·rfl
     ·cases hx
     ·cases hx
     ·split at hx<;>cases hx
     ·cases hx
    |succ k=>obtain ⟨v',h1,h2⟩:=ih hxs (by simpa using hk);exact ⟨v',by simpa using h1,h2⟩
   ·cases h
omit hR in
theorem Rz {cs:List AV}:∀{k:Nat} {vs:List Value} {u:Value} {a:AV},bV μ cs vs→vs[k]? =some u→rep μ a u→bV μ (cs.set k a) vs:=by
 induction cs with
 |nil=>intro k vs u a h hu _;simp only [bV] at h;subst h;simp at hu
 |cons c cs ih=>
  intro k vs u a h hu hr;obtain ⟨v,us,rfl,h1,h2⟩:=h;cases k with
  |zero=>simp at hu;subst hu;exact ⟨v,us,rfl,hr,h2⟩
  |succ k=>exact ⟨v,us,rfl,h1,ih h2 (by simpa using hu) hr⟩
omit hR in
theorem qx {t:TypeId} {z:List AV} (h:zeroCells P t=some z):∃i v,P.info? t=some i∧i.zero=some v∧ku μ z v.cells.toList:=by
 unfold zeroCells at h;split at h
 ·rename_i i hi
  split at h
  ·rename_i v hv
   exact ⟨i,v,hi,hv,AR h⟩
  ·cases h
 ·cases h
theorem wJ {ty:Nat→TypeId} {parts:List (Nat×Operand)} {ps:List (Nat×AV)} (h:partsOf P ty st parts=some ps):
  ps.map (·.1)=parts.map (·.1)∧bV μ (ps.map (·.2)) (parts.map fun p=>a.eval p.2):=by
 induction parts generalizing ps with
 |nil=>simp [partsOf] at h;subst h;exact ⟨rfl,ef⟩
 |cons p parts ih=>
  grind [partsOf,bY,fC]
omit hR in
theorem Gz (cur:List Value):∀(news:List Value) (off k:Nat),off+k+news.length≤cur.length→
  ((news.zipIdx k).foldl (fun (cs:Array Value) (p:Value×Nat)=>cs.setIfInBounds (off+p.2) p.1) cur.toArray)=(cur.take (off+k)++news++cur.drop (off+k+news.length)).toArray:=by
 intro news
 induction news generalizing cur with
 |nil=>intro off k h;simp
 |cons v news ih=>
  intro off k h;simp only [List.zipIdx_cons,fR];simp only [bg] at h;have h1:cur.toArray.setIfInBounds (off+k) v=(cur.set (off+k) v).toArray:=by simp
  rw [h1,ih (cur.set (off+k) v) off (k+1) (by simp;omega)]
  congr 1
  rw [←kB,List.take_succ_eq_append_getElem (by simp;omega)];simp only [List.getElem_set_self,List.take_set_of_le (aS _),bg];rw [List.drop_set_of_lt (by omega)];simp only [fe,ff,dU]
  congr 4
  omega
omit hR in
theorem Ce {place:Nat→Option (Nat×Nat)} {cells cs:List AV} {vs:List Value} {ps:List (Nat×AV)} {us:List (Nat×Value)}
  (h:wS place cells ps=some cs) (hc:ku μ cells vs) (h1:ps.map (·.1)=us.map (·.1)) (h2:bV μ (ps.map (·.2)) (us.map (·.2))) (h3:∀p∈ps,∀x,p.2≠ .mu x):
  ∃ws:List Value,Instr.fill place vs.toArray us=some ws.toArray∧ku μ cs ws:=by
 induction ps generalizing cells vs us with
 |nil=>
  cases us with
  |nil=>simp [wS] at h;subst h;exact ⟨vs,by simp [Instr.fill],hc⟩
  |cons u us=>simp at h1
 |cons p ps ih=>
  cases us with
  |nil=>simp at h1
  |cons u us=>
   obtain ⟨i,x⟩:=p;obtain ⟨i',y⟩:=u;simp only [aP,dz] at h1;obtain ⟨rfl,h1⟩:=h1;simp only [aP,bV] at h2;obtain ⟨u',us',e,hx,h2⟩:=h2;simp only [dz] at e;obtain ⟨rfl,rfl⟩:=e;simp only [wS] at h;split at h
   ·cases h
   ·rename_i off size CL
    split at h
    ·rename_i fU
     have hxc:=LU hx (fun z=>h3 (i,x) (by simp) z);have hlen:y.cells.size=size:=by
      have:=hxc.length;simpa [fU.1] using this
     have hvl:=hc.length;have hnews:=((hc.take off).append hxc).append (hc.drop (off+size));obtain ⟨ws,hw,hr⟩:=ih h hnews h1 h2 (fun p hp=>h3 p (by simp [hp]));refine ⟨ws,?_,hr⟩;simp only [Instr.fill,CL];have hle:¬(off+y.cells.size>vs.toArray.size):=by simp;omega
     rw [ak (by simp [hlen];omega)];rw [←hw]
     congr 1
     have hsp:=Gz vs y.cells.toList off 0 (by simp;omega);simp only [oC,zI,hlen] at hsp;rw [←hsp,←Array.foldl_toList,Pm]
    ·cases h
omit hR in
theorem run_places (l:List Field) (hl:l.all (fun f=>(lq P f.type).isSome)=true):
  (l.mapM (fun f=>Functor.map (Prod.mk f.offset) (sizeOf f.type)):Sem (List (Nat×Nat))).run P w= .ok (l.map fun f=>(f.offset,(lq P f.type).getD 0)) w:=by
 induction l with
 |nil=>rfl
 |cons f l ih=>
  simp only [gU,aF] at hl;obtain ⟨n,hn⟩:=kA.1 hl.1;simp [zJ,kI hn,hn,ih hl.2]
omit hR in
theorem Gy {t:List TypeId}:∀{ks:List Nat} {z z':List AV} {vs:List Value},nN P t vs=some z→Em ks z=some z'→ku μ z' vs
 |[],z,z',vs,h,hs=>by
  simp only [Em,aG] at hs;subst hs;exact AR h
 |k::ks,z,z',vs,h,hs=>by
  simp only [Em] at hs;split at hs
  ·rename_i s hk
   obtain ⟨z1,h1,rfl⟩:=bS.1 hs;have ih:=Gy h h1;obtain ⟨v,hv,e⟩:=R9 h hk;subst e;refine ⟨?_,ih.2⟩;have:=Rz ih.1 hv (a:= .rK) (by simp [rep]);exact this
  ·cases hs
omit hR in
theorem L8 {h:Hint} {d:Option Nat} {t:TypeId} {z:List AV} (hz:L7 P h d t=some z):∃i v,P.info? t=some i∧i.zero=some v∧ku μ z v.cells.toList:=by
 unfold L7 at hz;split at hz
 ·rename_i ks hd
  obtain ⟨z0,h0,h1⟩:=dw.1 hz;unfold zeroCells at h0;split at h0
  ·rename_i i hi
   split at h0
   ·rename_i v hv
    exact ⟨i,v,hi,hv,Gy h0 h1⟩
   ·cases h0
  ·cases h0
 ·exact qx hz
theorem BC {o:Oper} {zo:Option (List AV)} {t:TypeId} {parts:Array (Nat×Operand)} {sv:SV} (hzo:∀z,zo=some z→∃i v,P.info? t=some i∧i.zero=some v∧ku μ z v.cells.toList) (ho:o.op= .build t parts) (h:yx P zo t parts st=some sv):oh P μ loc o sv a w:=by
 unfold yx at h;split at h
 ·rename_i fs hu
  split at h
  ·rename_i z ps hps
   split at h
   ·rename_i hnt
    obtain ⟨hnt,hfs⟩:=hnt;cases hf:wS (oL P t) z ps with
    |none=>simp_all
    |some cs=>
     simp [hf] at h;subst h;obtain ⟨i,v,hi,hv,hc⟩:=hzo z rfl;obtain ⟨h1,h2⟩:=wJ hR hps
     obtain ⟨ws,hw,hr⟩:=Ce (us:=parts.toList.map fun p=>(p.1,a.eval p.2)) hf hc (by simp_all) (by simp_all [eO,kD]) (fun p hp x e=>by
      have:=cg.1 hnt p hp
      rw [e] at this;cases this)
     refine fh (s:=Instr.build t (parts.map fun p=>(p.1,a.eval p.2))) (by unfold execOp;rw [ho]) (v:= .agg ws.toArray) ?_ ?_
     ·obtain ⟨fl⟩:=fs
      have CL:=run_places (w:=w) fl hfs;have hpe:(fun x=>Option.map (fun f:Field=>(f.offset,(lq P f.type).getD 0)) fl[x]?)=oL P t:=by
       funext x
       simp only [oL,vQ,hu,FK];cases hx:fl[x]? with
       |none=>rfl
       |some fd=>
        grind [Option.isSome_iff_exists,List.all_eq_true,List.mem_of_getElem?]
      simp_all [Array.toArray_toList,Instr.build,zeroValue,typeInfo,bz]
     ·show rep μ (.agg cs) _
      exact ⟨ws,rfl,hr.1,hr.2⟩
   grind
  grind
 ·split at h
  ·rename_i z ps s hps hs
   split at h
   ·rename_i hnt
    cases hf:wS (fun i=>some (i *s,s)) z ps with
    |none=>simp_all
    |some cs=>
     simp [hf] at h;subst h;obtain ⟨i,v,hi,hv,hc⟩:=hzo z rfl;obtain ⟨h1,h2⟩:=wJ hR hps
     obtain ⟨ws,hw,hr⟩:=Ce (us:=parts.toList.map fun p=>(p.1,a.eval p.2)) hf hc (by simp_all) (by simp_all [kD]) (fun p hp x e=>by
      have:=cg.1 hnt p hp
      rw [e] at this;cases this)
     refine fh (by unfold execOp;rw [ho]) (v:= .agg ws.toArray) ?_ ?_
     ·simp_all [Instr.build,zeroValue,typeInfo,bz,kI]
     ·exact ⟨ws,rfl,hr.1,hr.2⟩
   grind
  grind
 grind
theorem Qi {o:Oper} {hn:Hint} {t:TypeId} {parts:Array (Nat×Operand)} {sv:SV} (ho:o.op= .build t parts) (h:yx P (L7 P hn o.dst t) t parts st=some sv):oh P μ loc o sv a w:=
 BC hR (fun z hz=>L8 hz) ho h
omit hR in
theorem KT {desc:TypeDesc} {kt:TypeId} (hd:P.underlying kt=some desc) {key:AV} {kv:Value} (hk:rep μ key kv) (hok:jO P kt key=true):∀{ks:List AV} {cN:List MapEntry} {r:Option Nat} (i:Nat),bV μ ks (cN.map (·.key))→qb key ks=some r→
  (match r with
  |some j=>∃e,cN[j]? =some e∧Instr.findNow desc kv cN i=some (some (i+j,e.val))∧∃x,ks[j]? =some x∧vR key x=some true
  |none=>Instr.findNow desc kv cN i=some none):=by
 intro ks
 induction ks with
 |nil=>
  intro cN r i h hf;simp only [qb,aG] at hf;subst hf;rw [bV] at h;have:cN=[]:=by simpa using h
  subst this;rfl
 |cons x ks ih=>
  intro cN r i h hf;rw [bV] at h;obtain ⟨u,us,e,hx,z8⟩:=h;cases cN with
  |nil=>simp at e
  |cons en cN=>
   simp only [aP,dz] at e;obtain ⟨rfl,rfl⟩:=e;have same:∀b,vR key x=some b→Instr.sameNow desc kv en.key=some b:=by
    intro b hb;unfold vR at hb;split at hb
    ·rename_i s t
     rw [rep] at hk hx;rw [hk,hx];simp only [jO,hd] at hok;cases desc<;>simp at hok;simp only [Instr.sameNow,acC];exact hb
    ·rename_i k s k' t
     rw [rep] at hk hx;rw [hk,hx];simp only [jO,hd] at hok;cases desc<;>simp at hok;simp only [Instr.sameNow];exact hb
    ·rename_i s t
     rw [rep] at hk hx;rw [hk,hx];simp only [jO,hd] at hok;cases desc<;>simp at hok;simp only [Instr.sameNow];exact hb
    ·cases hb
   simp only [qb] at hf;split at hf
   ·rename_i hs
    injection hf with hf;subst hf
    have hs':=same _ hs;exact ⟨en,rfl,by simp only [Instr.findNow,hs'];simp,x,rfl,hs⟩
   ·rename_i hs
    have hs':=same _ hs;cases hm:qb key ks with
    |none=>simp [hm] at hf
    |some r'=>
     simp [hm] at hf;subst hf;have h2:=ih (i+1) z8 hm;cases r' with
     |none=>simp only [zK,Instr.findNow,hs'];exact h2
     |some j=>
      obtain ⟨e,he,hf,hx⟩:=h2;exact ⟨e,by simpa using he,by simp only [Instr.findNow,hs',hf];congr 3;omega,by simpa using hx⟩
   ·cases hf
omit hR in
theorem jg {kt:TypeId} {key:AV} {kv:Value} (hk:rep μ key kv) (hok:jO P kt key=true) (b:Bool) (w:World):(Instr.checkKey b 10000 kt kv).run P w= .ok () w:=by
 have key:∀n,(Instr.checkKey b (n+1) kt kv).run P w= .ok () w:=by
  intro n;unfold jO at hok;split at hok
  ·rename_i hu;rw [rep] at hk;subst hk;simp [Instr.checkKey,bz hu]
  ·rename_i hu;rw [rep] at hk;subst hk;simp [Instr.checkKey,bz hu]
  ·rename_i hu;rw [rep] at hk;subst hk;simp [Instr.checkKey,bz hu]
  ·cases hok
 exact key 9999
omit hR in
theorem TT {kt:TypeId} {key:AV} (hok:jO P kt key=true):∃desc,P.underlying kt=some desc:=by
 unfold jO at hok;split at hok
 ·exact ⟨_, ‹_›⟩
 ·exact ⟨_, ‹_›⟩
 ·exact ⟨_, ‹_›⟩
 ·cases hok
omit hR in
theorem oG {kt:TypeId} {key:AV} {kv:Value} (hk:rep μ key kv) (hok:jO P kt key=true) {ks:List AV} {cN:List MapEntry} {r:Option Nat} (h:bV μ ks (cN.map (·.key))) (hf:qb key ks=some r) (w:World):
  match r with
  |some j=>∃e,cN[j]? =some e∧(Instr.findKey kt kv cN).run P w= .ok (some (j,e.val)) w∧∃x,ks[j]? =some x∧vR key x=some true
  |none=>(Instr.findKey kt kv cN).run P w= .ok none w:=by
 obtain ⟨desc,hd⟩:=TT hok;have h1:=KT hd hk hok 0 h hf;cases r with
 |none=>simp only [] at h1⊢;simp [Instr.findKey,bz hd,h1]
 |some j=>
  obtain ⟨e,he,hn,hx⟩:=h1;exact ⟨e,he,by simp [Instr.findKey,bz hd,hn],hx⟩
omit hR in
theorem AS {t:TypeId} {z:AV} (h:qa P t=some z) (w:World):∃v,(zeroValue t).run P w= .ok v w∧rep μ z v:=by
 unfold qa at h;split at h
 ·rename_i i hi
  have hrun:∀v,i.zero=some v→(zeroValue t).run P w= .ok v w:=fun v hv=>by simp [zeroValue,typeInfo,hi,hv]
  split at h
  ·rename_i cs hz
   cases hc:nN P (vN P 8 t) cs.toList with
   |none=>simp [hc] at h
   |some zs=>
    simp [hc] at h;subst h;have hr:=AR (μ:=μ) hc;refine ⟨_,hrun _ hz,?_⟩;rw [rep];exact ⟨cs.toList,by simp,hr.1,hr.2⟩
  ·rename_i v _ hz
   exact ⟨v,hrun v hz,vY h⟩
  ·cases h
 ·cases h
theorem ML {o:Oper} {t:TypeId} {x k:Operand} {ok:Bool} {sv:SV} (ho:o.op= .lookup t x k ok) (h:e9 P o st=some sv):oh P μ loc o sv a w:=by
 unfold e9 at h;rw [ho] at h;simp only [] at h;split at h
 ·rename_i kt et hu
  split at h
  ·rename_i ks key hx hk
   cases hok:(ok&&jO P kt key&&(qa P et).isSome) with
   |false=>simp_all
   |true=>
    simp only [hok,ai,bS] at h;obtain ⟨r,hf,rfl⟩:=h;simp only [aF] at hok;obtain ⟨⟨hok1,hok⟩,hzz⟩:=hok;subst hok1;have hkr:=fC hR hk;obtain ⟨sx,hsx,hmx⟩:=dw.1 hx;unfold F7 at hmx;split at hmx
    ·rename_i id
     split at hmx
     ·rename_i k' e' sz' ks' vs' dG
      injection hmx with hmx;subst hmx
      have hv:a.eval x=fM (loc id):=aU hR hsx;obtain ⟨b,cN,clock,us,hl,_,hh,_,h1,h2,h3,h4,h5,_⟩:=hR.obs id _ dG;have hv:a.eval x= .map (some b):=by rw [hv,hl];rfl
      have MR:=oG hkr hok h1 hf w;have fin:∀y,(Instr.lookup t (a.eval x) (a.eval k) true).run P w= .ok (.tuple #[y, .bool r.isSome]) w→oh P μ loc o (.two .any r.isSome) a w:=fun y hr=>
       fh (s:=Instr.lookup t (a.eval x) (a.eval k) true) (by unfold execOp;rw [ho]) hr ⟨y,rfl,trivial⟩
      cases r with
      |none=>
       simp only [] at MR;obtain ⟨z,hz⟩:=kA.1 hzz;obtain ⟨zv,hzr,_⟩:=AS (μ:=μ) hz w;refine fin zv ?_;rw [hv];simp [Instr.lookup,bz hu,iF hh,jg hkr hok,MR,hzr]
      |some j=>
       obtain ⟨e,he,hrun,_⟩:=MR;refine fin e.val ?_;rw [hv];simp [Instr.lookup,bz hu,iF hh,jg hkr hok,hrun]
     simp_all
    simp_all
  split at h
  ·rename_i ks vs key hx hk
   cases hok:jO P kt key with
   |false=>simp_all
   |true=>
    simp only [hok,ai] at h;have hkr:=fC hR hk;obtain ⟨sx,hsx,hmx⟩:=dw.1 hx;have hm:=Ji hR hmx (aU hR hsx);have fin:∀(y:AV) (b:Bool) (yv:Value),rep μ y yv→rep _ (found ok y b) (if ok=true then .tuple #[yv, .bool b] else yv):=fun y b yv hy=>by
     cases ok with
     |false=>exact hy
     |true=>exact ⟨_,rfl,bY hy (bY (by simp [rep]) ef)⟩
    have run:∀(y) (b) (yv),rep _ y yv→(Instr.lookup t _ _ _).run P w= .ok _ w→oh P _ loc o (.pv _) a w:=fun y b yv hy hr=>
     fh (by unfold execOp;rw [ho]) hr (fin y b _ hy)
    unfold Ua at h;rcases hm with ⟨hv,rfl,rfl⟩|⟨b,cN,clock,hv,hh,h1,h2⟩
    ·simp [qb] at h
     cases hz:qa P et with
     |none=>simp_all
     |some z=>
      simp [hz] at h;subst h;obtain ⟨zv,hzr,aao⟩:=AS hz w;refine run z _ _ aao ?_;have MR:=oG hkr hok (ks:=[]) (cN:=[]) (by rfl) rfl w;rw [hv];simp [Instr.lookup,bz hu,jg hkr hok,MR,hzr]
    ·cases hf:qb key ks with
     |none=>simp_all
     |some r=>
      have MR:=oG hkr hok h1 hf w;cases r with
      |none=>
       simp [hf] at h;cases hz:qa P et with
       |none=>simp_all
       |some z=>
        simp [hz] at h;subst h;obtain ⟨zv,hzr,aao⟩:=AS hz w;refine run z _ _ aao ?_;rw [hv];simp [Instr.lookup,bz hu,iF hh,jg hkr hok,MR,hzr]
      |some j=>
       simp [hf] at h;cases hg:vs[j]? with
       |none=>simp_all
       |some y=>
        simp [hg] at h;subst h;obtain ⟨e,he,hrun,_⟩:=MR;obtain ⟨yv,Hl,hyr⟩:=sJ h2 hg;have :=by
         have he' :=by simpa using he
         simp [he'] at Hl;exact Hl.symm
        subst this;refine run y _ _ hyr ?_;rw [hv];simp [Instr.lookup,bz hu,iF hh,jg hkr hok,hrun]
  grind
 grind
theorem MN {o:Oper} {t:TypeId} {x mx:Operand} {lo hi:Option Operand} {sv:SV} (ho:o.op= .slice t x lo hi (some mx)) (h:e9 P o st=some sv):oh P μ loc o sv a w:=by
 unfold e9 at h;rw [ho] at h;simp only [Vr] at h;split at h
 rotate_left
 ·cases h
 rename_i hi;split at h
 ·rename_i id hx
  split at h
  ·rename_i e2 sz xs e s ka va kb vb dG hs hh hm
   split at h
   ·rename_i hc
    obtain ⟨rfl,rfl,rfl⟩:=hc;injection h with h;subst h
    obtain ⟨hu,inf,nE,hsz⟩:=gA hs;have wM:a.eval x=loc id:=(aU hR hx:a.eval x=fM (loc id)).trans (jf (hR.obs id _ dG));have hhv:=aU hR hh;have vB:=aU hR hm;simp only [gy,rep] at hhv vB;obtain ⟨vs,hown,hrc,_⟩:=hR.obs id _ dG;obtain ⟨A,c,nQ,hlc,hA⟩:∃A c,loc id= .slice A xs.length c∧xs.length≤c∧(A.map (·.add (0 *s))=A):=by
     rcases hown.2 with ⟨e1,e2⟩|⟨g,cap,cur,e1,h2,h3,h4⟩
     ·exact ⟨none,0,by rw [e1,e2],by omega,rfl⟩
     ·exact ⟨_,cap,e1,h4.1,by simp [add_zero']⟩
    refine fh (s:=Instr.sliceAt t (a.eval x) (none:Option Value) (some (a.eval hi)) (some (a.eval mx))) (by unfold execOp;rw [ho];rfl) (v:= .slice A xs.length xs.length) ?_ ⟨A,xs.length,c,nQ,rfl⟩;rw [wM,nQ,hhv,vB];have h1:((xs.length:Nat):Int)≤(c:Int):=by omega
    have hz:(if xs.length=0 then A else A.map (·.add (0 *s)))=A:=by split<;>simp_all
    simp only [vG] at hz;simp [Instr.sliceAt,Instr.slice,bz hu,Instr.sliceBounds,Instr.sliceBound,asIntOf,sizeOf,typeInfo,nE,hsz,h1,hz,hlc];intro _;simpa using hA
   ·cases h
  ·cases h
 ·cases h
theorem vq {o:Oper} {sv:SV} (h:e9 P o st=some sv):oh P μ loc o sv a w:=by
 have h':=h;unfold e9 at h';split at h'
 ·grind [Ci]
 ·rename_i x ho;exact Ci hR (.inr ho) h'
 ·grind [Tn]
 ·grind [XG]
 ·grind [aad]
 ·grind [KU]
 ·grind [FY]
 ·grind [IV]
 ·grind [GN]
 ·grind [Qj]
 ·grind [GQ]
 ·grind [Qk]
 ·grind [Tm]
 ·grind [Ql]
 ·grind [MN]
 ·grind [KV]
 ·grind [ML]
 ·rename_i ho;exact BC hR (fun z hz=>qx hz) ho (by omega)
 simp_all
end
end
end Go.AM
