/- THE ABSTRACT MACHINE. -/
import Derived.Test.YthppjmoncapdfaaGreatDoorAmRel
import Derived.Laws.Strings
import Derived.Laws.StructEq
set_option linter.unusedVariables false
set_option linter.unusedSimpArgs false
namespace Go.AM
section
variable {P:Program} {μ:Mu} {loc:Nat→Value} {w:World}
theorem qS {t:TypeId} {v:Value} {x:AV} (h:ofConst P t v=some x):rep μ x v:=by
 unfold ofConst at h;split at h
 ·injection h with h;subst h;simp [rep]
 ·injection h with h;subst h;simp [rep]
 ·injection h with h;subst h;simp [rep]
 ·cases hs:isSlice P t with
  |none=>simp [hs] at h
  |some y=>simp [hs] at h;subst h;rw [rep];exact ⟨none,0,rfl,Nat.le_refl _,Nat.zero_le _, .inl rfl⟩
 ·injection h with h;subst h;simp [rep]
 ·injection h with h;subst h;simp [rep,Value.oneCell',Value.cells]
 ·split at h
  ·injection h with h;subst h;rw [rep];exact .inl ⟨rfl,rfl,rfl⟩
  ·cases h
 ·cases h
theorem lJ {t:TypeId} {b:Bool} (h:xD P t=some b) (w:World):(isAgg t).run P w= .ok b w:=by
 unfold xD at h;unfold isAgg;split at h
 ·rename_i fs hu;injection h with h;subst h;simp [run_underlying hu]
 ·rename_i n e hu;injection h with h;subst h;simp [run_underlying hu]
 ·rename_i d h1 h2 hu
  injection h with h;subst h
  simp only [Sem.run_bind,run_underlying hu,Result.andThen_ok];cases d<;>first|rfl|(exfalso;exact h1 _ rfl)|(exfalso;exact h2 _ _ rfl)|(exfalso;simp_all)
 ·cases h
theorem gl {t:TypeId} {n:Nat} (h:gB P t=some n) (w:World):(sizeOf t).run P w= .ok n w:=by
 unfold gB at h;cases hi:P.info? t with
 |none=>simp [hi] at h
 |some i=>simp [hi] at h;subst h;simp [sizeOf,typeInfo,hi]
theorem dV {t:TypeId} {e:TypeId} {s:Nat} (h:isSlice P t=some (e,s)):P.underlying t=some (.slice e)∧∃i,P.info? e=some i∧i.size=s:=by
 unfold isSlice at h;split at h
 ·rename_i e' hu
  cases hi:P.info? e' with
  |none=>simp [hi] at h
  |some i=>simp [hi] at h;obtain ⟨rfl,rfl⟩:=h;exact ⟨hu,i,hi,rfl⟩
 ·cases h
theorem add_lit (b off j:Nat):(⟨b,off,none⟩:Addr).add j=⟨b,off+j,none⟩:=by
 unfold Addr.add;split<;>simp_all
theorem add_zero' (p:Addr):p.add 0=p:=by
 unfold Addr.add;split<;>simp_all
theorem mu {t:TypeId} {ad:Addr} {cs:List AV} {vs:List Value} {x:AV} (hx:eS P t cs=some x) (hc:fT μ cs vs)
  (hcell:∀j v,vs[j]? =some v→w.cell? (ad.add j)=some v):∃v,(loadVar t ad).run P w= .ok v w∧rep μ x v:=by
 unfold eS at hx;split at hx
 ·rename_i n ha hs
  split at hx
  ·rename_i hn
   injection hx with hx;subst hx
   have hl:(vs.take n).length=n:=by rw [List.length_take,hc.length];omega
   have hr:=run_loadCells_list (P:=P) w ad (vs.take n) (fun j v hv=>hcell j v (by
    rw [List.getElem?_take] at hv;split at hv
    ·exact hv
    ·cases hv))
   rw [hl] at hr;refine ⟨.agg (vs.take n).toArray,?_,?_⟩
   ·simp [loadVar,lJ ha,gl hs,hr]
   ·rw [rep];exact ⟨_,rfl,(hc.take n).1,(hc.take n).2⟩
  ·cases hx
 ·rename_i n ha hs
  obtain ⟨v,hv,hr⟩:=nk hc.1 hx;have h0:=hcell 0 v hv;have:ad.add 0=ad:=by simp [Addr.add]
  rw [this] at h0;exact ⟨v,by simp [loadVar,lJ ha,h0],hr⟩
 ·cases hx
theorem DB {t:TypeId} {cs:List AV} {vs:List Value} {x:AV} (off:Nat) (hx:eS P t (cs.drop off)=some x) (hc:fT μ cs vs):
  ∃v,(part t vs.toArray off).run P w= .ok v w∧rep μ x v:=by
 unfold eS at hx;split at hx
 ·rename_i n ha hs
  split at hx
  ·rename_i hn
   injection hx with hx;subst hx
   refine ⟨.agg ((vs.drop off).take n).toArray,?_,?_⟩
   ·simp [part,lJ ha,gl hs,List.extract_eq_take_drop]
   ·rw [rep];exact ⟨_,rfl,((hc.drop off).take n).1,((hc.drop off).take n).2⟩
  ·cases hx
 ·rename_i n ha hs
  obtain ⟨v,hv,hr⟩:=nk (hc.drop off).1 hx;rw [List.getElem?_drop,Nat.add_zero] at hv;exact ⟨v,by simp [part,lJ ha,hv],hr⟩
 ·cases hx
theorem Fk {xs:List SV} {vs:List Value} (h:eM μ loc xs vs) {i:Nat} {x:SV} (hx:xs[i]? =some x):∃v,vs[i]? =some v∧c8 μ loc x v:=by
 induction xs generalizing vs i with
 |nil=>simp at hx
 |cons y xs ih=>
  obtain ⟨u,us,rfl,h1,h2⟩:=h;cases i with
  |zero=>simp at hx;subst hx;exact ⟨u,by simp,h1⟩
  |succ i=>simp at hx;obtain ⟨v,hv,hr⟩:=ih h2 hx;exact ⟨v,by simpa using hv,hr⟩
theorem j5 {xs:List SV} {vs:List Value} (h:eM μ loc xs vs):vs.length=xs.length:=by
 induction xs generalizing vs with
 |nil=>exact congrArg List.length h
 |cons x xs ih=>obtain ⟨u,us,rfl,_,h2⟩:=h;simp [ih h2]
theorem wW {xs:List SV} {vs:List Value} (h:eM μ loc xs vs) (n:Nat):eM μ loc (xs.drop n) (vs.drop n):=by
 induction n generalizing xs vs with
 |zero=>simpa using h
 |succ n ih=>
  cases xs with
  |nil=>have:vs=[]:=h;subst this;simp [eM]
  |cons x xs=>obtain ⟨u,us,rfl,_,h2⟩:=h;simpa using ih h2
theorem wX {xs:List SV} {vs:List Value} (h:eM μ loc xs vs) (n:Nat):eM μ loc (xs.take n) (vs.take n):=by
 induction n generalizing xs vs with
 |zero=>simp [eM]
 |succ n ih=>
  cases xs with
  |nil=>have:vs=[]:=h;subst this;simp [eM]
  |cons x xs=>obtain ⟨u,us,rfl,h1,h2⟩:=h;exact ⟨u,us.take n,by simp,h1,ih h2⟩
theorem iY {xs ys:List SV} {vs us:List Value} (h:eM μ loc xs vs) (k:eM μ loc ys us):eM μ loc (xs++ys) (vs++us):=by
 induction xs generalizing vs with
 |nil=>have:vs=[]:=h;subst this;simpa using k
 |cons x xs ih=>obtain ⟨u,vs',rfl,h1,h2⟩:=h;exact ⟨u,vs'++us,by simp,h1,ih h2⟩
theorem mq {cs:List AV} {vs:List Value} (h:br μ cs vs):eM μ loc (cs.map .pv) vs:=by
 induction cs generalizing vs with
 |nil=>rw [br] at h;exact h
 |cons x xs ih=>rw [br] at h;obtain ⟨u,us,rfl,h1,h2⟩:=h;exact ⟨u,us,rfl,h1,ih h2⟩
theorem I7 {xs:List SV} {ks:List jJ} {vs:List Value} (h:qK xs=some ks) (k:eM μ loc xs vs):fU μ loc ks vs:=by
 induction xs generalizing ks vs with
 |nil=>simp only [qK,Option.some.injEq] at h;subst h;exact k
 |cons x xs ih=>
  obtain ⟨u,us,rfl,h1,h2⟩:=k;cases x with
  |pv v=>
   simp only [qK,Option.map_eq_some_iff] at h;obtain ⟨ks',hk,rfl⟩:=h;exact ⟨u,us,rfl,h1,ih hk h2⟩
  |row id=>
   simp only [qK,Option.map_eq_some_iff] at h;obtain ⟨ks',hk,rfl⟩:=h;exact ⟨u,us,rfl,h1,ih hk h2⟩
  |_=>simp [qK] at h
theorem An {xs:List SV} {cs:List AV} {vs:List Value} (h:jm xs=some cs) (k:eM μ loc xs vs):br μ cs vs:=by
 induction xs generalizing vs cs with
 |nil=>simp [jm] at h;subst h;have:vs=[]:=k;subst this;exact cK
 |cons x xs ih=>
  cases x with
  |pv v=>
   simp only [jm] at h;cases h':jm xs with
   |none=>simp [h'] at h
   |some ds=>simp [h'] at h;subst h;obtain ⟨u,us,rfl,h1,h2⟩:=k;exact bI h1 (ih h' h2)
  |_=>simp [jm] at h
theorem cg {sz:Nat} {xs:List (List AV)} {vs:List Value} (h:bZ μ sz xs vs):vs.length=xs.length *sz:=by
 induction xs generalizing vs with
 |nil=>have:vs=[]:=h;subst this;simp
 |cons x xs ih=>obtain ⟨us,ws,rfl,_,h2,h3⟩:=h;simp [ih h3,h2,Nat.add_mul];omega
theorem Hx {sz:Nat} {xs:List (List AV)} {vs:List Value} (h:bZ μ sz xs vs) {i:Nat} {x:List AV} (hx:xs[i]? =some x):
  ∃us:List Value,fT μ x us∧us.length=sz∧∀j u,us[j]? =some u→vs[i *sz+j]? =some u:=by
 induction xs generalizing vs i with
 |nil=>simp at hx
 |cons y xs ih=>
  obtain ⟨us,ws,rfl,h1,h2,h3⟩:=h;cases i with
  |zero=>
   simp at hx;subst hx;refine ⟨us,h1,h2,fun j u hu=> ?_⟩;rw [List.getElem?_append_left (by simpa using (List.getElem?_eq_some_iff.1 hu).1)];simpa using hu
  |succ i=>
   simp at hx;obtain ⟨us',k1,k2,k3⟩:=ih h3 hx;refine ⟨us',k1,k2,fun j u hu=> ?_⟩;rw [List.getElem?_append_right (by rw [h2,Nat.add_mul];omega),h2,show (i+1) *sz+j-sz=i *sz+j from by rw [Nat.add_mul];omega];exact k3 j u hu
end
section
variable {P:Program} {N:Nat} {w0:World} {μ0:Mu} {L:mG} {μ:Mu} {loc:Nat→Value} {st:St} {a:Act} {w:World}
theorem aI (hR:Rel N w0 μ0 L μ loc st a w) {t:TypeId} {x:Operand} {sv:SV} (h:aR P t st x=some sv):c8 μ loc sv (a.eval x):=by
 cases x with
 |tmp i=>
  obtain ⟨v,hv,hr⟩:=hR.env i sv h;have:a.eval (.tmp i)=v:=by simp [Act.eval,hv]
  rw [this];exact hr
 |const v=>
  simp only [aR] at h;cases hc:ofConst P t v with
  |none=>simp [hc] at h
  |some y=>simp [hc] at h;subst h;exact qS (P:=P) hc
 |func f=>simp [aR] at h;subst h;show rep μ (.fn f []) _;rw [rep];exact ⟨[],rfl,cK⟩
 |global g=>simp [aR] at h
theorem dr (hR:Rel N w0 μ0 L μ loc st a w) {t:TypeId} {x:Operand} {v:AV} (h:(aR P t st x).bind eR =some v):rep μ v (a.eval x):=by
 cases ho:aR P t st x with
 |none=>simp [ho] at h
 |some sv=>
  have:=aI hR ho;cases sv<;>simp [ho,eR] at h;subst h;exact this
theorem Jv (op:BinOp) (t:TypeId) (X Y:Operand) (k k':IntKind) (n m:Int) (w:World):(eqGuard op t X Y (.int k n) (.int k' m)).run P w= .ok () w:=by
 unfold eqGuard;split<;>rfl
theorem Jw (op:BinOp) (t:TypeId) (X Y:Operand) (x y:ByteArray) (w:World):(eqGuard op t X Y (.string x) (.string y)).run P w= .ok () w:=by
 unfold eqGuard;split<;>rfl
theorem F6 (op:BinOp) (t:TypeId) (X Y:Operand) (x y:Bool) (w:World):(eqGuard op t X Y (.bool x) (.bool y)).run P w= .ok () w:=by
 unfold eqGuard;split<;>rfl
theorem run_equalIn_bool (d:Nat) {t:TypeId} (hu:P.underlying t=some .bool) (x y:Bool) (w:World):(Op.equalIn (d+1) t (.bool x) (.bool y)).run P w= .ok (x==y) w:=by
 simp [Op.equalIn,run_underlying hu]
theorem Nl (a b:List UInt8):((⟨a.toArray⟩:ByteArray)==⟨b.toArray⟩)=(a==b):=by
 show (a.toArray==b.toArray)=(a==b)
 simp
theorem PS {t:TypeId} {a:AV} (h:fI P t a=true):xD P t=some false:=by
 unfold fI at h;unfold xD;split at h
 ·rename_i hu;rw [hu]
 ·rename_i hu;rw [hu]
 ·rename_i hu;rw [hu]
 ·cases h
theorem Am {xs ys:List AV} {vs us:List Value} (hx:fT μ xs vs) (hy:fT μ ys us) (d:Nat):∀{fs:List Field} {b:Bool},ER P xs ys fs=some b→(Op.eqFields (d+1) vs.toArray us.toArray fs).run P w= .ok b w
 |[],b=>fun h=>by simp only [ER,Option.some.injEq] at h;subst h;simp [Op.eqFields]
 |f::fs,b=>fun h=>by
  unfold ER at h;split at h
  ·rename_i ax ay hax hay
   cases hc:(!(f.name== "_")&&fI P f.type ax&&fI P f.type ay&&(gB P f.type).isSome) with
   |false=>simp [hc] at h
   |true=>
    simp only [hc,cond_true] at h;simp only [Bool.and_eq_true,Bool.not_eq_true',beq_eq_false_iff_ne,ne_eq] at hc;obtain ⟨⟨⟨hn,hkx⟩,hky⟩,hsz⟩:=hc;obtain ⟨n,hn'⟩:=Option.isSome_iff_exists.1 hsz;have hag:=PS hkx;have t1:eS P f.type (xs.drop f.offset)=some ax:=by
     unfold eS;rw [hag,hn'];simpa using hax
    have t2:eS P f.type (ys.drop f.offset)=some ay:=by
     unfold eS;rw [hag,hn'];simpa using hay
    obtain ⟨v,hv,rv⟩:=DB (w:=w) f.offset t1 hx;obtain ⟨u,hu,ru⟩:=DB (w:=w) f.offset t2 hy;split at h
    ·rename_i r q hr hq
     injection h with h;subst h
     have ih:=Am hx hy d hq;have he:(Op.equalIn (d+1) f.type v u).run P w= .ok r w:=by
      unfold fI at hkx;split at hkx
      ·rename_i t0 s tW
       cases ay<;>simp [p9] at hr;rw [rep] at rv ru;subst rv;subst ru;subst hr;rw [run_equalIn_string w d f.type _ _ tW];simp [ByteArray.toList_eq]
      ·rename_i q k n tW
       cases ay<;>simp [p9] at hr;obtain ⟨rfl,rfl⟩:=hr;rw [rep] at rv ru;subst rv;subst ru;rw [run_equalIn_int w d f.type _ _ _ _ tW]
      ·rename_i t0 s tW
       cases ay<;>simp [p9] at hr;rw [rep] at rv ru;subst rv;subst ru;subst hr;rw [run_equalIn_bool' w d f.type _ _ tW]
      ·cases hkx
     simp only [Op.eqFields,if_pos hn,Sem.run_bind,hv,hu,he,Result.andThen_ok,Sem.run_ite,ih,ne_eq,not_false_eq_true,if_true];cases r<;>simp
    ·cases h
  ·cases h
theorem FI {op:BinOp} {t:TypeId} {xs ys:List AV} {r:AV} {X Y:Operand} {u v:Value} (h:Lc P op t xs ys=some r) (hx:rep μ (.agg xs) u) (hy:rep μ (.agg ys) v):
  ∃z,(do eqGuard op t X Y u v;binOp op t u v).run P w= .ok z w∧rep μ r z:=by
 rw [rep] at hx hy;obtain ⟨vs,rfl,h1,h2⟩:=hx;obtain ⟨us,rfl,k1,k2⟩:=hy;unfold Lc at h;split at h
 ·rename_i fs hu
  cases hc:(!(P.stoodInHeld t)&& !(P.eqGuardType P.depth t)) with
  |false=>simp [hc] at h
  |true=>
   simp only [hc,cond_true] at h;simp only [Bool.and_eq_true,Bool.not_eq_true'] at hc;have hf:P.fieldsOf t=fs:=by unfold Program.fieldsOf;rw [hu]
   have Bj:P.underlying t=some (.struct (P.fieldsOf t)):=by rw [hf];exact hu
   have heq:∀b,ER P xs ys fs.toList=some b→(Op.equalIn 10000 t (.agg vs.toArray) (.agg us.toArray)).run P w= .ok b w:=fun b hb=>by
    rw [run_equalIn_struct w 9999 t _ _ Bj hc.1,hf];exact Am ⟨h1,h2⟩ ⟨k1,k2⟩ 9998 hb
   simp only [Sem.run_bind,run_eqGuard_agg w op t X Y _ _ hc.2,Result.andThen_ok];split at h
   ·rename_i b hb
    injection h with h;subst h
    exact ⟨.bool b,by simp [binOp,Op.equal,Op.maxDepth,heq b hb],by simp [rep]⟩
   ·rename_i b hb
    injection h with h;subst h
    exact ⟨.bool !b,by simp [binOp,Op.equal,Op.maxDepth,heq b hb],by simp [rep]⟩
   ·cases h
 ·cases h
theorem O9 {op:BinOp} {t:TypeId} {x y r:AV} {X Y:Operand} {u v:Value} (h:bin P op t x y=some r) (hx:rep μ x u) (hy:rep μ y v):
  ∃z,(do eqGuard op t X Y u v;binOp op t u v).run P w= .ok z w∧rep μ r z:=by
 cases x with
 |int k n=>
  cases y with
  |int k' m=>
   rw [rep] at hx hy;subst hx;subst hy;simp only [Sem.run_bind,Jv,Result.andThen_ok];unfold bin at h;cases op
   case shl=>
    simp only [uU] at h;split at h
    ·cases h
    ·injection h with h;subst h;rename_i hn;exact ⟨_,by simp [binOp,Op.shift,hn];rfl,by simp [rep]⟩
   case shr=>
    simp only [uU] at h;split at h
    ·cases h
    ·injection h with h;subst h;rename_i hn;exact ⟨_,by simp [binOp,Op.shift,hn];rfl,by simp [rep]⟩
   case quo=>
    simp only [] at h;split at h
    ·rename_i e;subst e
     simp only [za] at h;split at h
     ·cases h
     ·injection h with h;subst h;rename_i hn;exact ⟨_,by simp [binOp,Op.intDiv,hn];rfl,by simp [rep]⟩
    ·cases h
   case rem=>
    simp only [] at h;split at h
    ·rename_i e;subst e
     simp only [za] at h;split at h
     ·cases h
     ·injection h with h;subst h;rename_i hn;exact ⟨_,by simp [binOp,Op.intDiv,hn];rfl,by simp [rep]⟩
    ·cases h
   all_goals
    simp only [] at h;split at h
    ·rename_i e;subst e
     simp only [za,Option.some.injEq] at h;subst h;exact ⟨_,by simp [binOp,Op.intArith,Op.intBits,Op.intCmp];rfl,by simp [rep]⟩
    ·cases h
  |_=>simp [bin] at h
 |str s=>
  cases y with
  |str s'=>
   rw [rep] at hx hy;subst hx;subst hy;simp only [Sem.run_bind,Jw,Result.andThen_ok];unfold bin at h;simp only [Nk] at h;cases op
   case add=>
    simp only [] at h;split at h
    ·rename_i hl
     injection h with h;subst h
     refine ⟨.string ⟨(s++s').toArray⟩,?_,by simp [rep]⟩;have hn:¬((((⟨s.toArray⟩:ByteArray).size+(⟨s'.toArray⟩:ByteArray).size:Nat):Int)>IntKind.i64.max):=by
      simp [ByteArray.size,IntKind.max,IntKind.signed,IntKind.bits];omega
     have e:(⟨s.toArray⟩:ByteArray)++⟨s'.toArray⟩=⟨(s++s').toArray⟩:=by
      apply ByteArray.ext;simp
     simp only [binOp,Op.stringOp,hn,if_false];rw [e];rfl
    ·cases h
   all_goals first
    |(simp at h;done)
    |(simp only [Option.some.injEq] at h;subst h;exact ⟨_,by simp [binOp,Op.stringOp];rfl,by simp [rep]⟩)
  |_=>simp [bin] at h
 |bool b=>
  cases y with
  |bool c=>
   rw [rep] at hx hy;subst hx;subst hy;simp only [Sem.run_bind,F6,Result.andThen_ok];unfold bin at h;simp only [] at h;split at h
   ·rename_i hu
    injection h with h;subst h
    exact ⟨.bool (b==c),by simp only [binOp];simp [Op.equal,Op.maxDepth,run_equalIn_bool 9999 hu],by simp [rep]⟩
   ·rename_i hu
    injection h with h;subst h
    exact ⟨.bool !(b==c),by simp only [binOp];simp [Op.equal,Op.maxDepth,run_equalIn_bool 9999 hu],by simp [rep]⟩
   ·cases h
  |_=>simp [bin] at h
 |agg xs=>
  cases y with
  |agg ys=>exact FI (by simpa [bin] using h) hx hy
  |_=>simp [bin] at h
 |_=>simp [bin] at h
theorem Un {op:UnOp} {x r:AV} {u:Value} (h:un op x=some r) (hx:rep μ x u):∃z,(Op.unary op u).run P w= .ok z w∧rep μ r z:=by
 unfold un at h;split at h
 ·injection h with h;subst h;rw [rep] at hx;subst hx;exact ⟨_,by simp [Op.unary,Op.intArith];rfl,by simp [rep]⟩
 ·injection h with h;subst h;rw [rep] at hx;subst hx;exact ⟨_,by simp [Op.unary];rfl,by simp [rep]⟩
 ·cases h
theorem eO {n0:Nat} {id:Nat} {e:TypeId} {sz:Nat} {xs:List (List AV)} (h:ig n0 L μ loc w id (.row e sz xs)):cV (loc id)=loc id:=by
 obtain ⟨vs,hown,_⟩:=h;rcases hown.2 with ⟨e1,_⟩|⟨g,cap,cur,e1,_⟩<;>rw [e1]<;>rfl
theorem NJ {n0:Nat} {id:Nat} {k e:TypeId} {ks es:List AV} (h:ig n0 L μ loc w id (.mp k e ks es)):cV (loc id)=loc id:=by
 obtain ⟨b,cN,clock,hl,_⟩:=h;rw [hl];rfl
theorem oq {sz b:Nat} {xs:List (List AV)} {off:Nat} (h:fR μ sz b xs off):∃vs,bZ μ sz xs vs∧∀j u,vs[j]? =some u→μ b (off+j)=some u:=by
 induction xs generalizing off with
 |nil=>exact ⟨[],rfl,by simp⟩
 |cons x xs ih=>
  rw [fR] at h;obtain ⟨⟨us,h1,h2,h3,h4⟩,h5⟩:=h;obtain ⟨ws,k1,k2⟩:=ih h5;refine ⟨us++ws,⟨us,ws,rfl,⟨h1,h2⟩,h3,k1⟩,fun j u hu=> ?_⟩;by_cases hj:j<us.length
  ·rw [List.getElem?_append_left hj] at hu;exact h4 j u hu
  ·rw [List.getElem?_append_right (by omega),h3] at hu
   have:=k2 _ u hu
   rwa [show off+sz+(j-sz)=off+j from by omega] at this
theorem gO {sz:Nat} {xs:List (List AV)} {vs:List Value} (h:bZ μ sz xs vs):∀u∈vs,u.oneCell'=true:=by
 induction xs generalizing vs with
 |nil=>have:vs=[]:=h;subst this;simp
 |cons x xs ih=>
  obtain ⟨a,b,rfl,h1,h2,h3⟩:=h;intro u hu;rcases List.mem_append.1 hu with hu|hu
  ·exact h1.2 u hu
  ·exact ih h3 u hu
theorem nH {sz:Nat} {xs:List (List AV)} {vs:List Value} (h:bZ μ sz xs vs) (n:Nat):bZ μ sz (xs.take n) (vs.take (n *sz)):=by
 induction n generalizing xs vs with
 |zero=>simp [bZ]
 |succ n ih=>
  cases xs with
  |nil=>simp only [bZ] at h;subst h;simp [bZ]
  |cons x xs=>
   obtain ⟨us,ws,rfl,h1,h2,h3⟩:=h;refine ⟨us,ws.take (n *sz),?_,h1,h2,ih h3⟩;rw [show (n+1) *sz=us.length+n *sz from by rw [Nat.add_mul,h2];omega,List.take_length_add_append]
theorem vS {sz:Nat} {xs:List (List AV)} {vs:List Value} (h:bZ μ sz xs vs) (n:Nat):bZ μ sz (xs.drop n) (vs.drop (n *sz)):=by
 induction n generalizing xs vs with
 |zero=>simpa using h
 |succ n ih=>
  cases xs with
  |nil=>simp only [bZ] at h;subst h;simp [bZ]
  |cons x xs=>
   obtain ⟨us,ws,rfl,h1,h2,h3⟩:=h;rw [show (n+1) *sz=us.length+n *sz from by rw [Nat.add_mul,h2];omega,List.drop_length_add_append];exact ih h3
theorem nP (hR:Rel N w0 μ0 L μ loc st a w) {v:SV} {u:Value} {sz:Nat} {xs:List (List AV)} (hel:elems st v=some (sz,xs)) (hv:c8 μ loc v u):
  ∃A c,u= .slice A xs.length c∧∃us,bZ μ sz xs us∧(xs.length=0∨∃ad:Addr,A=some ad∧∀j x,us[j]? =some x→w.cell? (ad.add j)=some x):=by
 cases v with
 |pv v=>
  cases v with
  |aW s' zs=>
   simp only [elems,Option.some.injEq,Prod.mk.injEq] at hel;obtain ⟨rfl,rfl⟩:=hel;simp only [c8,rep] at hv;obtain ⟨A,c,e1,_,_,h3⟩:=hv;rcases h3 with h0|⟨b,off,rfl,hrow⟩
   ·have:zs=[]:=List.eq_nil_of_length_eq_zero h0
    subst this;exact ⟨A,c,e1,[],rfl, .inl rfl⟩
   ·obtain ⟨us,k1,k2⟩:=oq hrow
    exact ⟨_,c,e1,us,k1, .inr ⟨_,rfl,fun j u hu=>by rw [add_lit];exact nZ (hR.oZ _ _ _ (k2 j u hu)) (gO k1 u (List.mem_of_getElem? hu))⟩⟩
  |_=>simp [elems] at hel
 |row id'=>
  simp only [elems] at hel;split at hel
  ·rename_i e' s' zs qE
   simp only [Option.some.injEq,Prod.mk.injEq] at hel;obtain ⟨rfl,rfl⟩:=hel;have hok:=hR.obs id' _ qE;have hb:=eO hok;obtain ⟨us,hown',x4,_⟩:=hok;have yR:u=cV (loc id'):=hv;rw [hb] at yR;rcases hown'.2 with ⟨e1,e2⟩|⟨g,cap,cur,e1,_⟩
   ·exact ⟨none,0,by rw [yR,e1,e2],us,x4, .inl e2⟩
   ·exact ⟨_,cap,by rw [yR,e1],us,x4, .inr ⟨_,rfl,hown'.cells (g:=g) (by rw [e1];rfl)⟩⟩
  ·cases hel
 |sub id' s2 lo hi=>
  simp only [elems] at hel;split at hel
  ·rename_i e' s' zs qE
   cases hq:Nat.beq s2 s' with
   |false=>rw [hq] at hel;cases hel
   |true=>
   rw [hq] at hel;simp only [cond_true,Option.some.injEq,Prod.mk.injEq] at hel;obtain ⟨rfl,rfl⟩:=hel;have e0:=Nat.eq_of_beq_eq_true hq;subst e0;obtain ⟨us,hown',x4,_⟩:=hR.obs id' _ qE;obtain ⟨A,n,c,A',c',h1,h2,h3,h4,h5,h6,h7⟩:=hv;have hn:n=zs.length:=by
    rcases hown'.2 with ⟨e1,e2⟩|⟨g,cap,cur,e1,_⟩
    ·rw [h1] at e1;injection e1 with _ e1 _;omega
    ·rw [h1] at e1;injection e1 with _ e1 _
   have hl:((zs.take hi).drop lo).length=hi-lo:=by simp;omega
   refine ⟨A',c',by rw [hl];exact h5,(us.take (hi *s2)).drop (lo *s2),vS (nH x4 hi) lo,?_⟩;rw [hl];by_cases hlt:lo<hi
   ·obtain ⟨g,eA,eA'⟩:=h7 hlt
    refine .inr ⟨_,eA',fun j x hx=> ?_⟩;have Bg:=hown'.cells (g:=g) (by rw [h1,eA];rfl);rw [List.getElem?_drop,List.getElem?_take] at hx;split at hx
    ·have:=Bg _ _ hx
     rw [add_lit] at this⊢
     rwa [Nat.zero_add] at this
    ·cases hx
   ·exact .inl (by omega)
  ·cases hel
 |_=>simp [elems] at hel
theorem Ar (hR:Rel N w0 μ0 L μ loc st a w) {v:SV} {u:Value} {sz:Nat} {xs:List (List AV)} (h:elems st v=some (sz,xs)) (hv:c8 μ loc v u):
  ∃A c,u= .slice A xs.length c:=by
 obtain ⟨A,c,e,_⟩:=nP hR h hv;exact ⟨A,c,e⟩
theorem J7 (hR:Rel N w0 μ0 L μ loc st a w) {v:SV} {u:Value} {n:Nat} (h:lenOf st v=some n) (hv:c8 μ loc v u):∃A c,u= .slice A n c:=by
 unfold lenOf at h;split at h
 ·injection h with h;subst h
  obtain ⟨A,c,e⟩:=Ar hR (v:= .pv (.aW _ _)) rfl hv;exact ⟨A,c,e⟩
 ·rename_i id
  split at h
  ·rename_i e s xs cu
   injection h with h;subst h
   exact Ar hR (v:= .row id) (sz:=s) (by simp only [elems,cu]) hv
  ·rename_i e s k e' s' xs ys cu
   injection h with h;subst h
   obtain ⟨m,us,vs,hl,_,hown,_⟩:=hR.obs id _ cu;have e1:u=m:=(show u=cV (loc id) from hv).trans (by rw [hl];rfl);rcases hown.2 with ⟨e2,e3⟩|⟨g,cap,cur,e2,_⟩
   ·exact ⟨none,0,by rw [e1,e2,e3]⟩
   ·exact ⟨_,cap,by rw [e1,e2]⟩
  ·cases h
 ·cases h
theorem eL {r:Nat} {es:Array MapEntry} {clock:Nat} (h:w.heap[r]? =some (.map es clock)):(getObj r).run P w= .ok (.map es clock) w:=by simp [getObj,Sem.run,h]
theorem De (hR:Rel N w0 μ0 L μ loc st a w) {v:SV} {u:Value} {ks vs:List AV} (h:maps st v=some (ks,vs)) (hv:c8 μ loc v u):
  (u= .map none∧ks=[]∧vs=[])∨∃b cN clock,u= .map (some b)∧w.heap[b]? =some (.map cN clock)∧br μ ks (cN.toList.map (·.key))∧br μ vs (cN.toList.map (·.val)):=by
 unfold maps at h;split at h
 ·injection h with h;injection h with h1 h2;subst h1;subst h2
  simp only [c8,rep] at hv;rcases hv with hv|⟨b,kv,ev,rfl,h1,h2,h3⟩
  ·exact .inl hv
  ·obtain ⟨cN,clock,hh,rfl,rfl⟩:=V7 (hR.oZ _ _ _ h3)
   exact .inr ⟨b,cN,clock,rfl,hh,h1,h2⟩
 ·rename_i id
  cases ho:st.ob id with
  |none=>simp [ho] at h
  |some o=>
   cases o with
   |box t cs=>simp [ho] at h
   |row e s ys=>simp [ho] at h
   |mr k e s ks' vs'=>simp [ho] at h
   |rn e s k e' s' xs ys=>simp [ho] at h
   |it s n=>simp [ho] at h
   |lp s=>simp [ho] at h
   |mp k e ks' vs'=>
    simp only [ho,Option.some.injEq,Prod.mk.injEq] at h;obtain ⟨rfl,rfl⟩:=h;have hb:=NJ (hR.obs id _ ho);obtain ⟨b,cN,clock,hl,_,hh,_,h1,h2,_⟩:=hR.obs id _ ho;simp only [c8] at hv;exact .inr ⟨b,cN,clock,by rw [hv,hb,hl],hh,h1,h2⟩
 ·cases h
def jl (P:Program) (μ:Mu) (loc:Nat→Value) (o:Oper) (sv:SV) (a:Act) (w:World):Prop:=
 ∃v,(execOp a.eval o).run P w= .ok (.value v) w∧c8 μ loc sv v
theorem c9 {o:Oper} {s:Sem Value} {sv:SV} (he:execOp a.eval o=(do pure (.value (←s)))) {v:Value} (hr:s.run P w= .ok v w) (hs:c8 μ loc sv v):jl P μ loc o sv a w:=
 ⟨v,by rw [he];simp [hr],hs⟩
section
variable (hR:Rel N w0 μ0 L μ loc st a w)
include hR
theorem wz {o:Oper} {x:Operand} {sv:SV} (ho:o.op= .move x∨o.op= .assign x) (h:aR P o.type st x=some sv):jl P μ loc o sv a w:=by
 refine ⟨a.eval x,?_,aI hR h⟩;rcases ho with ho|ho<;> · unfold execOp;rw [ho];rfl
theorem LX {o:Oper} {c x y:Operand} {sv:SV} (ho:o.op= .pick c x y) (h:c7 P o st=some sv):jl P μ loc o sv a w:=by
 unfold c7 at h;rw [ho] at h;simp only [] at h;split at h
 ·rename_i t hc
  have Uv:=aI hR hc;simp only [c8,rep] at Uv;cases t with
  |true=>
   refine ⟨a.eval x,?_,aI hR h⟩;unfold execOp;rw [ho];simp [Uv,asBool]
  |false=>
   refine ⟨a.eval y,?_,aI hR h⟩;unfold execOp;rw [ho];simp [Uv,asBool]
 ·cases h
theorem Pw {o:Oper} {op:BinOp} {t t':TypeId} {x y:Operand} {sv:SV} (ho:o.op= .binOp op t x y t') (h:c7 P o st=some sv):jl P μ loc o sv a w:=by
 unfold c7 at h;rw [ho] at h;simp only [] at h;split at h
 ·rename_i u v hu hv
  cases hb:bin P op t u v with
  |none=>simp [hb] at h
  |some r=>
   simp [hb] at h;subst h;obtain ⟨z,hz,hr⟩:=O9 (w:=w) (X:=x) (Y:=y) hb (dr hR hu) (dr hR hv);exact c9 (by unfold execOp;rw [ho]) hz hr
 ·cases h
theorem Sc {o:Oper} {op:UnOp} {t:TypeId} {x:Operand} {sv:SV} (ho:o.op= .unOp op t x) (h:c7 P o st=some sv):jl P μ loc o sv a w:=by
 unfold c7 at h;rw [ho] at h;simp only [] at h;split at h
 ·rename_i u hu
  cases hb:un op u with
  |none=>simp [hb] at h
  |some r=>
   simp [hb] at h;subst h;obtain ⟨z,hz,hr⟩:=Un (P:=P) (w:=w) hb (dr hR hu);exact c9 (by unfold execOp;rw [ho]) hz hr
 ·cases h
omit hR in
theorem I9 {xs:List (List AV)} {bs:List UInt8} {us:List Value} (h:bytesOf xs=some bs) (hrc:bZ μ 1 xs us):∃ns:List Int,us=ns.map (Value.int .u8)∧bs=ns.map fun n=>UInt8.ofNat n.toNat:=by
 induction xs generalizing bs us with
 |nil=>simp only [bytesOf,Option.some.injEq] at h;subst h;have:us=[]:=hrc;subst this;exact ⟨[],rfl,rfl⟩
 |cons x xs ih=>
  obtain ⟨u1,ws,rfl,h1,h2,h3⟩:=hrc;unfold bytesOf at h;split at h
  ·rename_i h0;cases h0
  ·rename_i n l h0
   injection h0 with e1 e2;subst e1;subst e2
   cases hb:bytesOf xs with
   |none=>simp [hb] at h
   |some bs'=>
    simp [hb] at h;subst h;obtain ⟨ns,rfl,rfl⟩:=ih hb h3;have h11:=h1.1;rw [br] at h11;obtain ⟨y,ys,rfl,hy,hys⟩:=h11;rw [br] at hys;subst hys;rw [rep] at hy;subst hy;exact ⟨n::ns,by simp,by simp⟩
  ·cases h
omit hR in
theorem foldl_push (ns:List Int):ns.foldl (fun (r:ByteArray) n=>r.push (UInt8.ofNat n.toNat)) ByteArray.empty=⟨(ns.map fun n=>UInt8.ofNat n.toNat).toArray⟩:=by
 have key:∀(ns:List Int) (s:ByteArray),ns.foldl (fun (r:ByteArray) n=>r.push (UInt8.ofNat n.toNat)) s=⟨s.data++(ns.map fun n=>UInt8.ofNat n.toNat).toArray⟩:=by
  intro ns
  induction ns with
  |nil=>intro s;simp
  |cons n ns ih=>intro s;simp only [List.foldl_cons,ih];simp [ByteArray.push]
 rw [key];simp
theorem Em {o:Oper} {t t':TypeId} {x:Operand} {sv:SV} (ho:o.op= .convert t t' x) (h:c7 P o st=some sv):jl P μ loc o sv a w:=by
 unfold c7 at h;rw [ho] at h;simp only [] at h;split at h
 ·rename_i e hu hd
  split at h
  ·rename_i xs he hsz hx
   cases hb:bytesOf xs with
   |none=>simp [hb] at h
   |some bs=>
    simp [hb] at h;subst h;obtain ⟨sx,Yt,hel⟩:=Option.bind_eq_some_iff.1 hx;obtain ⟨A,c,pH,us,hrc,hsrc⟩:=nP hR hel (aI hR Yt);obtain ⟨ns,Ea,hbs⟩:=I9 hb hrc;have uw:=cg hrc;refine c9 (s:=convert t t' (a.eval x)) (by unfold execOp;rw [ho]) (v:= .string ⟨bs.toArray⟩) ?_ (by simp [c8,rep]);have e1:∀v:Value,(∃A n c,v= .slice A n c)→(convert t t' v).run P w=(Conv.bytesToString v).run P w:=by
     rintro v ⟨A,n,c,rfl⟩
     cases A<;>simp [convert,run_underlying hu,run_underlying hd,run_underlying he]
    rw [pH,e1 _ ⟨_,_,_,rfl⟩];rcases hsrc with h0|⟨ad,rfl,hc⟩
    ·have:us=[]:=List.eq_nil_of_length_eq_zero (by rw [uw,h0])
     subst this;have hn0:ns=[]:=by cases ns with
      |nil=>rfl
      |cons=>simp at Ea
     subst hn0;have hbs:bs=[]:=hbs;subst hbs;rw [h0];cases A with
     |none=>rfl
     |some ad=>
      have:=run_bytesToString (P:=P) w ad 0 c [] (by simpa using run_loadCells_list (P:=P) w ad [] (by simp));rw [this];rfl
    ·have hl:=run_loadCells_list (P:=P) w ad us hc
     have hlen:us.length=xs.length:=by rw [uw];simp
     rw [hlen,Ea] at hl;rw [run_bytesToString w ad xs.length c ns hl,hbs,foldl_push]
  ·cases h
 ·rename_i d k hu hd
  split at h
  ·rename_i k' n hx
   injection h with h;subst h
   have hv:=dr hR hx;rw [rep] at hv;refine c9 (s:=convert t t' (a.eval x)) (by unfold execOp;rw [ho]) (v:= .int k (k.wrap n)) ?_ (by simp [c8,rep]);rw [hv];simp [convert,run_underlying hu,run_underlying hd,Conv.intToInt]
  ·cases h
 ·rename_i d hne hu hd
  split at h
  ·rename_i s hx
   injection h with h;subst h
   have hv:=dr hR hx;rw [rep] at hv;refine c9 (s:=convert t t' (a.eval x)) (by unfold execOp;rw [ho]) (v:= .string ⟨s.toArray⟩) ?_ (by simp [c8,rep]);rw [hv];simp [convert,run_underlying hu,run_underlying hd]
  ·cases h
 ·cases h
theorem tP {b:Bool} {acc r:AV} {l:List Operand} {u:Value} (h:fh P st b acc l=some r) (hu:rep μ acc u):
  ∃v,((l.map a.eval).foldlM (if b then Builtin.max2 else Builtin.min2) u).run P w= .ok v w∧rep μ r v:=by
 induction l generalizing acc u with
 |nil=>simp only [fh,Option.some.injEq] at h;subst h;exact ⟨u,rfl,hu⟩
 |cons x l ih=>
  simp only [fh] at h;split at h
  ·rename_i v hv
   split at h
   ·rename_i r' hr'
    have hx:=dr hR hv;unfold MV at hr';split at hr'
    ·rename_i k n k' m
     split at hr'
     ·rename_i e;subst e
      injection hr' with hr';subst hr'
      rw [rep] at hu hx;subst hu;obtain ⟨z,hz,Sq⟩:=ih h (u:= .int k (if b=true then if m>n then m else n else if m<n then m else n)) (by simp [rep]);refine ⟨z,?_,Sq⟩;rw [←hz];simp only [List.map_cons,List.foldlM_cons,Sem.run_bind,hx];cases b<;>simp [Builtin.max2,Builtin.min2]
     ·cases hr'
    ·rename_i s1 s2
     injection hr' with hr';subst hr'
     rw [rep] at hu hx;subst hu;obtain ⟨z,hz,Sq⟩:=ih h (u:= .string ⟨(bif b then (bif !(Op.bytesLess s1 s2) then s1 else s2) else (bif Op.bytesLess s1 s2||s1==s2 then s1 else s2)).toArray⟩) (by simp [rep]);refine ⟨z,?_,Sq⟩;rw [←hz];simp only [List.map_cons,List.foldlM_cons,Sem.run_bind,hx];cases b with
     |true=>
      cases hc:Op.bytesLess s1 s2<;>simp [Builtin.max2,Op.stringOp,asBool,hc]
     |false=>
      cases hc:Op.bytesLess s1 s2<;>cases hq:s1==s2<;>simp_all [Builtin.min2,Op.stringOp,asBool,Nl]
    ·cases hr'
   ·cases h
  ·cases h
theorem Aw {o:Oper} {c:Call} {sv:SV} (ho:o.op= .call c) (h:sd P c st=some sv):jl P μ loc o sv a w:=by
 obtain ⟨callee,⟨args⟩,⟨argTypes⟩⟩:=c;unfold sd at h;simp only [] at h;split at h
 ·rename_i x
  split at h
  ·rename_i t
   split at h
   ·rename_i s hu hx
    injection h with h;subst h
    have hv:=aI hR hx;simp only [c8,rep] at hv;refine ⟨.int .i64 s.length,?_,by simp [c8,rep]⟩;have hsz:(⟨s.toArray⟩:ByteArray).size=s.length:=by simp [ByteArray.size]
    unfold execOp;rw [ho];simp [resolve,invoke,builtin,Builtin.len_,run_underlying hu,hv,goInt,hsz]
   ·rename_i e hu hx
    injection h with h;subst h
    have hv:=aI hR hx;simp only [c8,rep] at hv;refine ⟨.int .i64 0,?_,by simp [c8,rep]⟩;unfold execOp;rw [ho];simp [resolve,invoke,builtin,Builtin.len_,run_underlying hu,hv,goInt]
   ·rename_i e id sz lo hi hu hx
    injection h with h;subst h
    obtain ⟨A,n,c,A',c',_,hlo,hhi,_,hv,_⟩:=aI hR hx;refine ⟨.int .i64 ((hi-lo:Nat):Int),?_,by simp [c8,rep]⟩;unfold execOp;rw [ho];simp [resolve,invoke,builtin,Builtin.len_,run_underlying hu,hv,goInt]
   ·rename_i e v _ _ hu hx
    cases he:lenOf st v with
    |none=>simp [he] at h
    |some y=>
     simp [he] at h;subst h;obtain ⟨A,c,hv⟩:=J7 hR he (aI hR hx);refine ⟨.int .i64 y,?_,by simp [c8,rep]⟩;unfold execOp;rw [ho];simp [resolve,invoke,builtin,Builtin.len_,run_underlying hu,hv,goInt]
   ·rename_i kt et v hu hx
    cases he:maps st v with
    |none=>simp [he] at h
    |some y=>
     obtain ⟨ks,vs⟩:=y;simp [he] at h;subst h;refine ⟨.int .i64 ks.length,?_,by simp [c8,rep]⟩;unfold execOp;rw [ho];rcases De hR he (aI hR hx) with ⟨hv,rfl,rfl⟩|⟨b,cN,clock,hv,hh,h1,h2⟩
     ·simp [resolve,invoke,builtin,Builtin.len_,run_underlying hu,hv,goInt]
     ·have hlen:cN.size=ks.length:=by simpa using ji h1
      simp [resolve,invoke,builtin,Builtin.len_,run_underlying hu,hv,goInt,eL hh,hlen]
   ·cases h
  ·cases h
 ·rename_i x l
  split at h
  ·rename_i v hv
   cases hm:fh P st true v l with
   |none=>simp [hm] at h
   |some r=>
    simp [hm] at h;subst h;obtain ⟨z,hz,Sq⟩:=tP hR hm (dr hR hv);refine ⟨z,?_,Sq⟩;unfold execOp;rw [ho];simp only [if_true] at hz;simp [resolve,invoke,builtin,Builtin.max_,hz]
  ·cases h
 ·rename_i x l
  split at h
  ·rename_i v hv
   cases hm:fh P st false v l with
   |none=>simp [hm] at h
   |some r=>
    simp [hm] at h;subst h;obtain ⟨z,hz,Sq⟩:=tP hR hm (dr hR hv);refine ⟨z,?_,Sq⟩;unfold execOp;rw [ho];simp at hz;simp [resolve,invoke,builtin,Builtin.min_,hz]
  ·cases h
 ·cases h
omit hR in
theorem As {t:TypeId} {f:Nat} {fd:Field} (h:qN P t f=some fd):∃fs,P.underlying t=some (.struct fs)∧fs[f]? =some fd:=by
 unfold qN at h;split at h
 ·rename_i fs hu;exact ⟨fs,hu,h⟩
 ·cases h
theorem Be {o:Oper} {t:TypeId} {x:Operand} {f:Nat} {sv:SV} (ho:o.op= .fieldAddr t x f) (h:c7 P o st=some sv):jl P μ loc o sv a w:=by
 unfold c7 at h;rw [ho] at h;simp only [] at h;split at h
 ·rename_i fd hf
  obtain ⟨fs,hu,PE⟩:=As hf;split at h
  ·cases h
  ·rename_i n hn0 hs
   have hn:n≠0:=fun e=>hn0 e
   have run:∀ad:Addr,(Instr.fieldAt t (.pointer (some ad)) f).run P w= .ok (.pointer (some (ad.add fd.offset))) w:=fun ad=>by
    simp [Instr.fieldAt,run_underlying hu,PE,Instr.sureAddr,fieldPlace,gl hs,hn]
   split at h
   ·rename_i id off hx
    injection h with h;subst h
    obtain ⟨b,hl,hv⟩:=aI hR hx;refine c9 (s:=Instr.fieldAt t (a.eval x) f) (by unfold execOp;rw [ho]) (by rw [hv];exact run _) ?_;exact ⟨b,hl,by rw [add_lit]⟩
   ·rename_i cs hx
    injection h with h;subst h
    obtain ⟨b,off,vs,hv,hc,hm⟩:=aI hR hx;refine c9 (s:=Instr.fieldAt t (a.eval x) f) (by unfold execOp;rw [ho]) (by rw [hv];exact run _) ?_;refine ⟨b,off+fd.offset,vs.drop fd.offset,by rw [add_lit],hc.drop _,fun j v hj=> ?_⟩;rw [List.getElem?_drop] at hj;rw [Nat.add_assoc];exact hm _ _ hj
   ·rename_i cs hx
    injection h with h;subst h
    have hx':=aI hR hx;simp only [c8,rep] at hx';obtain ⟨b,off,vs,hv,hc1,CD,hm⟩:=hx';have hc:fT μ cs vs:=⟨hc1,CD⟩
    refine c9 (s:=Instr.fieldAt t (a.eval x) f) (by unfold execOp;rw [ho]) (by rw [hv];exact run _) ?_;refine ⟨b,off+fd.offset,vs.drop fd.offset,by rw [add_lit],hc.drop _,fun j v hj=> ?_⟩;rw [List.getElem?_drop] at hj;rw [Nat.add_assoc];exact hm _ _ hj
   ·rename_i id sz i off hx
    injection h with h;subst h
    obtain ⟨g,n',c,hl,hv⟩:=aI hR hx;refine c9 (s:=Instr.fieldAt t (a.eval x) f) (by unfold execOp;rw [ho]) (by rw [hv];exact run _) ?_;exact ⟨g,n',c,hl,by rw [add_lit,Nat.add_assoc]⟩
   ·cases h
  ·cases h
 ·cases h
theorem CA {o:Oper} {x:Operand} {sv:SV} (ho:o.op= .nilCheck x) (h:c7 P o st=some sv):jl P μ loc o sv a w:=by
 unfold c7 at h;simp only [ho] at h;have hs:aR P 0 st x=some sv∧∃p,a.eval x= .pointer (some p):=by
  split at h
  ·rename_i id off hx;injection h with h;subst h
   have:=aI hR hx;rw [c8] at this;obtain ⟨b,_,e⟩:=this;exact ⟨hx,_,e⟩
  ·rename_i cs hx;injection h with h;subst h
   have:=aI hR hx;rw [c8] at this;obtain ⟨b,off,vs,e,_⟩:=this;exact ⟨hx,_,e⟩
  ·rename_i cs hx;injection h with h;subst h
   have:=aI hR hx;rw [c8,rep] at this;obtain ⟨b,off,vs,e,_⟩:=this;exact ⟨hx,_,e⟩
  ·rename_i id sz i off hx;injection h with h;subst h
   have:=aI hR hx;rw [c8] at this;obtain ⟨b,n,c,_,e⟩:=this;exact ⟨hx,_,e⟩
  ·cases h
 obtain ⟨hx,p,he⟩:=hs;refine c9 (s:=pure (a.eval x)) ?_ (v:=a.eval x) rfl (aI hR hx);simp [execOp,ho,he]
theorem JL {o:Oper} {t:TypeId} {x:Operand} {f:Nat} {sv:SV} (ho:o.op= .field t x f) (h:c7 P o st=some sv):jl P μ loc o sv a w:=by
 unfold c7 at h;rw [ho] at h;simp only [] at h;split at h
 ·rename_i fd cs hf hx
  obtain ⟨fs,hu,PE⟩:=As hf;cases hT:eS P fd.type (cs.drop fd.offset) with
  |none=>simp [hT] at h
  |some y=>
   simp [hT] at h;subst h;have hv:=dr hR hx;rw [rep] at hv;obtain ⟨vs,hv,h1,h2⟩:=hv;obtain ⟨v,hr,sK⟩:=DB (w:=w) fd.offset hT ⟨h1,h2⟩;refine c9 (s:=Instr.field t (a.eval x) f) (by unfold execOp;rw [ho]) (v:=v) ?_ sK;rw [hv];simp [Instr.field,run_underlying hu,PE,asAgg,hr]
 ·cases h
theorem Bf {o:Oper} {t:TypeId} {x ix:Operand} {sv:SV} (ho:o.op= .indexAddr t x ix) (h:c7 P o st=some sv):jl P μ loc o sv a w:=by
 unfold c7 at h;rw [ho] at h;simp only [] at h;split at h
 ·rename_i n e hu
  unfold sM at h;split at h
  ·rename_i s id off k i hsz hx hi
   split at h
   ·rename_i hc
    obtain ⟨h0,hlt,hpos⟩:=hc;injection h with h;subst h
    have hiv:=aI hR hi;simp only [c8,rep] at hiv;obtain ⟨b,hl,hv⟩:=aI hR hx;refine c9 (s:=Instr.indexAt t (a.eval x) (a.eval ix)) (by unfold execOp;rw [ho]) (v:= .pointer (some ((⟨b,off,none⟩:Addr).add (i.toNat *s)))) ?_ ?_
    ·rw [hv,hiv]
     have:=gl hsz w;simp [Instr.indexAt,asIntOf,run_underlying hu,Instr.sureAddr,h0,hlt,this]
    ·exact ⟨b,hl,by rw [add_lit]⟩
   ·cases h
  ·rename_i s id sz j off k i hsz hx hi
   split at h
   ·rename_i hc
    obtain ⟨h0,hlt,hpos⟩:=hc;injection h with h;subst h
    have hiv:=aI hR hi;simp only [c8,rep] at hiv;obtain ⟨g,m,c,hl,hv⟩:=aI hR hx;refine c9 (s:=Instr.indexAt t (a.eval x) (a.eval ix)) (by unfold execOp;rw [ho]) (v:= .pointer (some ((⟨g,j *sz+off,none⟩:Addr).add (i.toNat *s)))) ?_ ?_
    ·rw [hv,hiv]
     have:=gl hsz w;simp [Instr.indexAt,asIntOf,run_underlying hu,Instr.sureAddr,h0,hlt,this]
    ·exact ⟨g,m,c,hl,by rw [add_lit,Nat.add_assoc]⟩
   ·cases h
  ·rename_i s cs k i hsz hx hi
   split at h
   ·rename_i hc
    obtain ⟨h0,hlt,hpos⟩:=hc;injection h with h;subst h
    have hiv:=aI hR hi;simp only [c8,rep] at hiv;obtain ⟨b,off,vs,hv,hcs,hm⟩:=aI hR hx;refine c9 (s:=Instr.indexAt t (a.eval x) (a.eval ix)) (by unfold execOp;rw [ho]) (v:= .pointer (some ((⟨b,off,none⟩:Addr).add (i.toNat *s)))) ?_ ?_
    ·rw [hv,hiv]
     have:=gl hsz w;simp [Instr.indexAt,asIntOf,run_underlying hu,Instr.sureAddr,h0,hlt,this]
    ·exact ⟨b,_,_,by rw [add_lit],hcs.drop _,fun q u hq=>by rw [List.getElem?_drop] at hq;have:=hm _ _ hq;rwa [←Nat.add_assoc] at this⟩
   ·cases h
  ·cases h
 unfold rP at h;split at h
 ·rename_i e s sz xs k i hs hx hi
  obtain ⟨hu,inf,iN,hsz⟩:=dV hs;split at h
  ·rename_i hc
   obtain ⟨rfl,h0⟩:=hc;cases hg:xs[i.toNat]? with
   |none=>simp [hg] at h
   |some y=>
    simp [hg] at h;subst h;have hlt:i.toNat<xs.length:=(List.getElem?_eq_some_iff.1 hg).1;have hv:=aI hR hx;have hiv:=aI hR hi;simp only [c8,rep] at hv hiv;obtain ⟨A,c,hv,hlc,hcm,hrow⟩:=hv;rcases hrow with hz|⟨b,off,rfl,hrow⟩
    ·omega
    ·obtain ⟨vs,hc1,CD,hc3⟩:=wV hrow hg
     refine c9 (s:=Instr.indexAt t (a.eval x) (a.eval ix)) (by unfold execOp;rw [ho]) (v:= .pointer (some ((⟨b,off,none⟩:Addr).add (i.toNat *s)))) ?_ ?_
     ·rw [hv,hiv]
      have hlt':i<(xs.length:Int):=by omega
      simp [Instr.indexAt,asIntOf,run_underlying hu,h0,hlt',sizeOf,typeInfo,iN,hsz]
     ·refine ⟨b,off+i.toNat *s,vs,by rw [add_lit],hc1,hc3⟩
  ·cases h
 ·rename_i e s id k i hs hx hi
  obtain ⟨hu,inf,iN,hsz⟩:=dV hs;split at h
  ·rename_i e' sz xs cu
   split at h
   ·rename_i hc
    obtain ⟨rfl,h0,hlt⟩:=hc;injection h with h;subst h
    have hv:=aI hR hx;have hiv:=aI hR hi;simp only [c8,rep] at hv hiv;rw [eO (hR.obs id _ cu)] at hv;obtain ⟨vs,hown,hrc,_⟩:=hR.obs id _ cu;obtain ⟨g,cap,iB,_⟩:∃g cap,loc id= .slice (some ⟨g,0,none⟩) xs.length cap∧True:=by
     rcases hown.2 with ⟨_,e2⟩|⟨g,cap,cur,e1,_⟩
     ·omega
     ·exact ⟨g,cap,e1,trivial⟩
    refine c9 (s:=Instr.indexAt t (a.eval x) (a.eval ix)) (by unfold execOp;rw [ho]) (v:= .pointer (some ((⟨g,0,none⟩:Addr).add (i.toNat *s)))) ?_ ?_
    ·rw [hv,hiv,iB]
     have hlt':i<(xs.length:Int):=by omega
     simp [Instr.indexAt,asIntOf,run_underlying hu,h0,hlt',sizeOf,typeInfo,iN,hsz]
    ·exact ⟨g,_,cap,by rw [iB];rfl,by rw [add_lit];simp⟩
   ·cases h
  ·rename_i e' sz k e2 s2 xs ys cu
   split at h
   ·rename_i hc
    obtain ⟨rfl,h0,hlt⟩:=hc;injection h with h;subst h
    have hv:=aI hR hx;have hiv:=aI hR hi;simp only [c8,rep] at hv hiv;obtain ⟨m,us,vs,hl,_,hown,_⟩:=hR.obs id _ cu;rw [hl] at hv
    replace hv:a.eval x=m:=hv
    obtain ⟨g,cap,iB,_⟩:∃g cap,m= .slice (some ⟨g,0,none⟩) xs.length cap∧True:=by
     rcases hown.2 with ⟨_,e2⟩|⟨g,cap,cur,e1,_⟩
     ·omega
     ·exact ⟨g,cap,e1,trivial⟩
    refine c9 (s:=Instr.indexAt t (a.eval x) (a.eval ix)) (by unfold execOp;rw [ho]) (v:= .pointer (some ((⟨g,0,none⟩:Addr).add (i.toNat *s)))) ?_ ?_
    ·rw [hv,hiv,iB]
     have hlt':i<(xs.length:Int):=by omega
     simp [Instr.indexAt,asIntOf,run_underlying hu,h0,hlt',sizeOf,typeInfo,iN,hsz]
    ·exact ⟨g,_,cap,by rw [hl];exact iB,by rw [add_lit];simp⟩
   ·cases h
  ·cases h
 ·rename_i e s id sz lo hi' k i hs hx hi
  obtain ⟨hu,inf,iN,hsz⟩:=dV hs;split at h
  ·rename_i hc
   obtain ⟨rfl,h0,hlt⟩:=hc;injection h with h;subst h
   have hiv:=aI hR hi;simp only [c8,rep] at hiv;obtain ⟨A,n,c,A',c',iB,hlo,hhi,Bq,hv,_,hg⟩:=aI hR hx;obtain ⟨g,rfl,rfl⟩:=hg (by omega);refine c9 (s:=Instr.indexAt t (a.eval x) (a.eval ix)) (by unfold execOp;rw [ho]) (v:= .pointer (some ((⟨g,lo *s,none⟩:Addr).add (i.toNat *s)))) ?_ ?_
   ·rw [hv,hiv]
    have hlt':i<((hi'-lo:Nat):Int):=by omega
    simp only [Instr.indexAt,asIntOf,Sem.run_bind,run_underlying hu,Sem.run_pure,Result.andThen_ok];simp [h0,hlt',sizeOf,typeInfo,iN,hsz]
   ·exact ⟨g,_,c,by rw [iB];rfl,by rw [add_lit];simp [Nat.add_mul]⟩
  ·cases h
 ·cases h
theorem JM {o:Oper} {t:TypeId} {x ix:Operand} {sv:SV} (ho:o.op= .index t x ix) (h:c7 P o st=some sv):jl P μ loc o sv a w:=by
 unfold c7 at h;rw [ho] at h;simp only [] at h;split at h
 ·rename_i s k i hu hx hi
  split at h
  ·rename_i h0
   cases hg:s[i.toNat]? with
   |none=>simp [hg] at h
   |some b=>
    simp [hg] at h;subst h;have hv:=aI hR hx;have hiv:=aI hR hi;simp only [c8,rep] at hv hiv;refine c9 (s:=Instr.index t (a.eval x) (a.eval ix)) (by unfold execOp;rw [ho]) (v:= .int .u8 b.toNat) ?_ (by simp [c8,rep]);rw [hv,hiv];have hlt:=(List.getElem?_eq_some_iff.1 hg)
    obtain ⟨hl,hb⟩:=hlt;have:(⟨s.toArray⟩:ByteArray)[i.toNat]? =some b:=by
     have hl':i.toNat<(⟨s.toArray⟩:ByteArray).size:=by simpa [ByteArray.size] using hl
     rw [getElem?_pos (⟨s.toArray⟩:ByteArray) i.toNat hl'];show some s.toArray[i.toNat]=some b;simp [hb]
    simp [Instr.index,asIntOf,run_underlying hu,h0,this]
  ·cases h
 ·cases h
theorem LW {o:Oper} {t:TypeId} {x:Operand} {sv:SV} (ho:o.op= .load t x) (h:c7 P o st=some sv):jl P μ loc o sv a w:=by
 have start:∀(ad:Addr),a.eval x= .pointer (some ad)→∀v,(loadVar t ad).run P w= .ok v w→∀sv,c8 μ loc sv v→jl P μ loc o sv a w:=fun ad hv v hr sv hs=>
  c9 (s:=Instr.loadAt t (a.eval x)) (by unfold execOp;rw [ho]) (v:=v) (by rw [hv];simp [Instr.loadAt,Instr.sureAddr,hr]) hs
 unfold c7 at h;rw [ho] at h;simp only [] at h;split at h
 ·rename_i cs hx
  cases hT:eS P t cs with
  |none=>simp [hT] at h
  |some y=>
   simp [hT] at h;subst h;obtain ⟨b,off,vs,hv,hc,hm⟩:=aI hR hx;obtain ⟨v,hr,sK⟩:=mu (w:=w) (ad:=⟨b,off,none⟩) hT hc (fun j u hu=>by rw [add_lit];exact nZ (hR.oZ _ _ _ (hm j u hu)) (hc.2 u (List.mem_of_getElem? hu)));exact start _ hv v hr _ sK
 ·rename_i cs hx
  cases hT:eS P t cs with
  |none=>simp [hT] at h
  |some y=>
   simp [hT] at h;subst h;have hx':=aI hR hx;simp only [c8,rep] at hx';obtain ⟨b,off,vs,hv,hc1,CD,hm⟩:=hx';have hc:fT μ cs vs:=⟨hc1,CD⟩
   obtain ⟨v,hr,sK⟩:=mu (w:=w) (ad:=⟨b,off,none⟩) hT hc (fun j u hu=>by rw [add_lit];exact nZ (hR.oZ _ _ _ (hm j u hu)) (hc.2 u (List.mem_of_getElem? hu)));exact start _ hv v hr _ sK
 ·rename_i id sz i off hx
  split at h
  ·rename_i e sz' xs cu
   split at h
   ·rename_i hsz;subst hsz
    cases hg:xs[i]? with
    |none=>simp [hg] at h
    |some c=>
     cases hT:eS P t (c.drop off) with
     |none=>simp [hg,hT] at h
     |some y=>
      simp [hg,hT] at h;subst h;obtain ⟨g,n,cp,hl,hv⟩:=aI hR hx;rw [eO (hR.obs id _ cu)] at hl;obtain ⟨vs,hown,hrc,_⟩:=hR.obs id _ cu;obtain ⟨us,hc1,CD,hc3⟩:=Hx hrc hg;have hcells:=hown.cells (g:=g) (by rw [hl];rfl)
      obtain ⟨v,hr,sK⟩:=mu (w:=w) (ad:=⟨g,i *sz+off,none⟩) hT (hc1.drop off) (fun j u hu=>by
       rw [List.getElem?_drop] at hu;have:=hcells _ _ (hc3 _ _ hu);rw [add_lit] at this⊢
       rwa [show 0+(i *sz+(off+j))=i *sz+off+j from by omega] at this)
      exact start _ hv v hr _ sK
   ·cases h
  ·rename_i e sz' k e' s' xs ys cu
   split at h
   ·rename_i hc
    obtain ⟨rfl,rfl,hi,hagg⟩:=hc;injection h with h;subst h
    obtain ⟨g,n,cp,hl,hv⟩:=aI hR hx;obtain ⟨m,us,vs,Bi,hm,hown,hrc,hk,h2,h3,h4,h5,h6,h7⟩:=hR.obs id _ cu;have qD:m= .slice (some ⟨g,0,none⟩) n cp:=by rw [Bi] at hl;exact hl
    have hcells:=hown.cells (g:=g) (by rw [qD];rfl);have hlt:i *sz+off<vs.length:=by
     rw [cg hrc];have:=Nat.mul_le_mul_right sz (show i+1≤xs.length from hi);rw [Nat.add_mul,Nat.one_mul] at this;have:=hk.1;omega
    obtain ⟨u,hu⟩:∃u,vs[i *sz+off]? =some u:=⟨vs[i *sz+off],List.getElem?_eq_getElem hlt⟩
    have hcu:=hcells _ _ hu;rw [add_lit,Nat.zero_add] at hcu;refine start _ hv u (by simp [loadVar,lJ hagg,hcu]) _ ?_;refine ⟨m,us,Bi,⟨_,_,_,qD⟩,fun x hx=> ?_⟩;cases hy:ys[i]? with
    |none=>have:=List.getElem?_eq_none_iff.1 hy;have:=(List.getElem?_eq_some_iff.1 hx).1;omega
    |some y=>
     cases y with
     |none=>have:=h5 i hy;rw [hx] at this;injection this with this;exact .inl this
     |some zs=>
      obtain ⟨u',cells,k1,k2,_⟩:=h4 i zs hy;rw [hx] at k1;rw [hu] at k2;injection k1 with k1;injection k2 with k2
      exact .inr (k1.trans k2.symm)
   ·cases h
  ·cases h
 ·rename_i id off hx
  obtain ⟨b,hl,hv⟩:=aI hR hx;split at h
  ·rename_i bt cells cu
   obtain ⟨b',vs,hl',Zp,hheap,oc,hss,h1⟩:=hR.obs id _ cu;rw [hl] at hl';simp only [Value.pointer.injEq,Option.some.injEq,Addr.mk.injEq,and_true] at hl';subst hl';have hcell:∀j,w.cell? ⟨b,j,none⟩=vs[j]? :=fun j=>by rw [cell_of_row w b j vs.toArray bt (0,0) hheap];simp
   split at h
   ·rename_i hagg
    split at h
    ·obtain ⟨v,CK,hr⟩:=Fk hss h
     refine start _ hv v ?_ _ hr;simp [loadVar,lJ hagg,hcell,CK]
    ·cases h
   ·rename_i hagg
    split at h
    ·rename_i n hsz
     split at h
     ·rename_i hle
      have hss':=wX (wW hss off) n;have hlen:=j5 hss;have Bi:((vs.drop off).take n).length=n:=by simp;omega
      have hr:=run_loadCells_list (P:=P) w ⟨b,off,none⟩ ((vs.drop off).take n) (fun j v hj=>by
       rw [add_lit,hcell];rw [List.getElem?_take] at hj;split at hj
       ·rwa [List.getElem?_drop] at hj
       ·cases hj)
      rw [Bi] at hr;cases hp:jm ((cells.drop off).take n) with
      |none=>
       simp only [hp,Option.map_eq_some_iff] at h;obtain ⟨ks,hk,rfl⟩:=h;refine start _ hv (.agg ((vs.drop off).take n).toArray) ?_ _ ?_
       ·simp [loadVar,lJ hagg,gl hsz,hr]
       ·exact ⟨_,rfl,I7 hk hss',fun u hu=>h1 u (List.mem_of_mem_drop (List.mem_of_mem_take hu))⟩
      |some cs=>
       simp [hp] at h;subst h;refine start _ hv (.agg ((vs.drop off).take n).toArray) ?_ _ ?_
       ·simp [loadVar,lJ hagg,gl hsz,hr]
       ·show rep μ (.agg cs) _
        rw [rep];exact ⟨_,rfl,An hp hss',fun u hu=>h1 u (List.mem_of_mem_drop (List.mem_of_mem_take hu))⟩
     ·cases h
    ·cases h
   ·cases h
  ·cases h
 ·cases h
theorem e9 {lo:Option Operand} {lv:Option SV} {d y r:Nat} (hl:gK P st lo=some lv) (h:eD lv d y=some r) (code:BoundsCode):
  (lo=none∧r=d)∨∃x,lo=some x∧(Instr.sliceBound (a.eval x) y code).run P w= .ok r w∧r≤y:=by
 cases lo with
 |none=>
  simp only [gK,Option.some.injEq] at hl;subst hl;simp only [eD,Option.some.injEq] at h;exact .inl ⟨rfl,h.symm⟩
 |some x=>
  simp only [gK] at hl;cases hx:aR P 0 st x with
  |none=>simp [hx] at hl
  |some sv=>
   simp [hx] at hl;subst hl;have hv:=aI hR hx;cases sv with
   |pv v=>
    cases v with
    |int k i=>
     simp only [eD] at h;split at h
     ·rename_i hc
      injection h with h;subst h
      simp only [c8,rep] at hv;refine .inr ⟨x,rfl,?_,by omega⟩;rw [hv];simp [Instr.sliceBound,asIntOf,hc]
     ·cases h
    |_=>simp [eD] at h
   |_=>simp [eD] at h
omit hR in
theorem xQ (s:List UInt8) (l h:Nat) (hl:l≤h) (hh:h≤s.length):(⟨s.toArray⟩:ByteArray).extract l h=⟨((s.take h).drop l).toArray⟩:=by
 apply ByteArray.ext;simp [ByteArray.data_extract,List.extract_eq_take_drop,List.drop_take]
theorem HC {t e:TypeId} {s:Nat} {x:Operand} {lo hi:Option Operand} {lv hv:Option SV} {A:Option Addr} {m c hh l:Nat} (hu:P.underlying t=some (.slice e)) (hsz:gB P e=some s) (pH:a.eval x= .slice A m c) (hlc:m≤c)
  (hlo:gK P st lo=some lv) (hhi:gK P st hi=some hv) (Bp:eD hv m m=some hh) (rC:eD lv 0 hh=some l):
  (Instr.sliceAt t (a.eval x) (lo.map a.eval) (hi.map a.eval) none).run P w= .ok (.slice (if c=l then A else A.map (·.add (l *s))) (hh-l) (c-l)) w:=by
 obtain ⟨inf,iN,hs⟩:∃i,P.info? e=some i∧i.size=s:=by
  unfold gB at hsz;cases hi:P.info? e with
  |none=>simp [hi] at hsz
  |some i=>exact ⟨i,rfl,by simpa [hi] using hsz⟩
 have hcap:hh≤m:=by
  rcases e9 hR hhi Bp .sliceAcap with ⟨_,e⟩|⟨_,_,_,e⟩<;>omega
 have Zo:l≤hh:=by
  rcases e9 hR hlo rC .sliceB with ⟨_,e⟩|⟨_,_,_,e⟩<;>omega
 have hhi':hi=none∧hh=m∨∃y,hi=some y∧(Instr.sliceBound (a.eval y) c .sliceAcap).run P w= .ok hh w:=by
  cases hi with
  |none=>
   rcases e9 hR hhi Bp .sliceAcap with ⟨_,e⟩|⟨_,e,_⟩
   ·exact .inl ⟨rfl,e⟩
   ·cases e
  |some y=>
   refine .inr ⟨y,rfl,?_⟩;simp only [gK] at hhi;cases hy:aR P 0 st y with
   |none=>simp [hy] at hhi
   |some sv'=>
    simp [hy] at hhi;subst hhi;have yR:=aI hR hy;cases sv' with
    |pv v=>
     cases v with
     |int k i=>
      simp only [eD] at Bp;split at Bp
      ·rename_i hc
       injection Bp with Bp;subst Bp
       simp only [c8,rep] at yR;rw [yR];have:i≤(c:Int):=by omega
       simp [Instr.sliceBound,asIntOf,hc.1,this]
      ·cases Bp
     |_=>simp [eD] at Bp
    |_=>simp [eD] at Bp
 rw [pH];rcases hhi' with ⟨rfl,rfl⟩|⟨xh,rfl,rh⟩<;>
 rcases e9 hR hlo rC .sliceB with ⟨rfl,rfl⟩|⟨xl,rfl,rl,_⟩<;>
 simp [Instr.sliceAt,Instr.slice,run_underlying hu,Instr.sliceBounds,sizeOf,typeInfo,iN, *]
theorem EU {lo hi:Option Operand} {lv hv:Option SV} {m hh l:Nat} (hlo:gK P st lo=some lv) (hhi:gK P st hi=some hv) (Bp:eD hv m m=some hh) (rC:eD lv 0 hh=some l):hh≤m∧l≤hh:=by
 constructor
 ·rcases e9 hR hhi Bp .sliceAcap with ⟨_,e⟩|⟨_,_,_,e⟩<;>omega
 ·rcases e9 hR hlo rC .sliceB with ⟨_,e⟩|⟨_,_,_,e⟩<;>omega
theorem JN {o:Oper} {t:TypeId} {x:Operand} {lo hi:Option Operand} {sv:SV} (ho:o.op= .slice t x lo hi none) (h:c7 P o st=some sv):jl P μ loc o sv a w:=by
 unfold c7 at h;rw [ho] at h;simp only [] at h;split at h
 ·rename_i s lv hv hu hx hlo hhi
  split at h
  ·rename_i hh Bp
   cases rC:eD lv 0 hh with
   |none=>simp [rC] at h
   |some l=>
    simp [rC] at h;subst h;have pH:=aI hR hx;simp only [c8,rep] at pH;have hcap:hh≤s.length:=by
     rcases e9 hR hhi Bp .sliceAlen with ⟨_,e⟩|⟨_,_,_,e⟩<;>omega
    have Zo:l≤hh:=by
     rcases e9 hR hlo rC .sliceB with ⟨_,e⟩|⟨_,_,_,e⟩<;>omega
    refine c9 (s:=Instr.sliceAt t (a.eval x) (lo.map a.eval) (hi.map a.eval) none) (by unfold execOp;rw [ho];rfl) (v:= .string ⟨((s.take hh).drop l).toArray⟩) ?_ (by simp [c8,rep]);rw [pH];have hsz:(⟨s.toArray⟩:ByteArray).size=s.length:=by simp [ByteArray.size]
    have hex:=xQ s l hh Zo hcap;rcases e9 hR hhi Bp .sliceAlen with ⟨rfl,rfl⟩|⟨xh,rfl,rh,_⟩<;>
    rcases e9 hR hlo rC .sliceB with ⟨rfl,rfl⟩|⟨xl,rfl,rl,_⟩<;>
    simp_all [Instr.sliceAt,Instr.slice,run_underlying hu,Instr.sliceBounds]
  ·cases h
 ·rename_i e sz xs lv hv hu hx hlo hhi
  split at h
  ·rename_i e' s hh hs Bp
   obtain ⟨Bj,inf,iN,hsz⟩:=dV hs;rw [hu] at Bj;injection Bj with Bj;injection Bj with Bj;subst Bj
   split at h
   ·rename_i e;subst e
    cases rC:eD lv 0 hh with
    |none=>simp [rC] at h
    |some l=>
     simp [rC] at h;subst h;have pH:=aI hR hx;simp only [c8,rep] at pH;obtain ⟨A,c,pH,hlc,hcm,hrow⟩:=pH;have hcap:hh≤xs.length:=by
      rcases e9 hR hhi Bp .sliceAcap with ⟨_,e⟩|⟨_,_,_,e⟩<;>omega
     have Zo:l≤hh:=by
      rcases e9 hR hlo rC .sliceB with ⟨_,e⟩|⟨_,_,_,e⟩<;>omega
     refine c9 (s:=Instr.sliceAt t (a.eval x) (lo.map a.eval) (hi.map a.eval) none) (by unfold execOp;rw [ho];rfl)
      (v:= .slice (if c=l then A else A.map (·.add (l *s))) (hh-l) (c-l)) ?_ ?_
     ·exact HC hR hu (by rw [gB,iN];simp [hsz]) pH hlc hlo hhi Bp rC
     ·show rep μ (.aW s ((xs.take hh).drop l)) _
      rw [rep];have hlen:((xs.take hh).drop l).length=hh-l:=by simp;omega
      refine ⟨_,_,by rw [hlen],by omega,by omega,?_⟩;rcases hrow with hz|⟨b,off,rfl,hrow⟩
      ·exact .inl (by omega)
      ·by_cases hc:c=l
       ·exact .inl (by omega)
       ·refine .inr ⟨b,off+l *s,by rw [if_neg hc];simp [add_lit],?_⟩
        exact KB (KC hrow hh) l (by simp;omega)
   ·cases h
  ·cases h
 ·rename_i e id lv hv hu hx hlo hhi
  split at h
  ·rename_i e' s e2 sz xs hs cu
   obtain ⟨Bj,inf,iN,hsz⟩:=dV hs;rw [hu] at Bj;injection Bj with Bj;injection Bj with Bj;subst Bj
   split at h
   ·rename_i hh Bp
    split at h
    ·rename_i e;subst e
     cases rC:eD lv 0 hh with
     |none=>simp [rC] at h
     |some l=>
      simp [rC] at h;subst h;have pH:a.eval x=loc id:=(aI hR hx:a.eval x=cV (loc id)).trans (eO (hR.obs id _ cu));obtain ⟨hcap,Zo⟩:=EU hR hlo hhi Bp rC;obtain ⟨vs,hown,hrc,_⟩:=hR.obs id _ cu;obtain ⟨A,c,iB,hlc,hA⟩:∃A c,loc id= .slice A xs.length c∧xs.length≤c∧(0<xs.length→∃g,A=some ⟨g,0,none⟩):=by
       rcases hown.2 with ⟨e1,e2⟩|⟨g,cap,cur,e1,h2,h3,h4⟩
       ·exact ⟨none,0,by rw [e1,e2],by omega,by omega⟩
       ·exact ⟨_,cap,e1,h4.1,fun _=>⟨g,rfl⟩⟩
      refine c9 (s:=Instr.sliceAt t (a.eval x) (lo.map a.eval) (hi.map a.eval) none) (by unfold execOp;rw [ho];rfl)
       (v:= .slice (if c=l then A else A.map (·.add (l *s))) (hh-l) (c-l)) (HC hR hu (by rw [gB,iN];simp [hsz]) (pH.trans iB) hlc hlo hhi Bp rC) ?_
      refine ⟨A,_,c,_,_,iB,Zo,hcap,by omega,rfl,fun e=> ?_,fun hlt=> ?_⟩
      ·subst e
       refine ⟨?_,by omega⟩;cases A<;>simp [add_zero']
      ·obtain ⟨g,rfl⟩:=hA (by omega)
       refine ⟨g,rfl,?_⟩;rw [if_neg (by omega)];simp [add_lit]
    ·cases h
   ·cases h
  ·cases h
 ·rename_i e id sz a' b' lv hv hu hx hlo hhi
  split at h
  ·rename_i e' s hh hs Bp
   obtain ⟨Bj,inf,iN,hsz⟩:=dV hs;rw [hu] at Bj;injection Bj with Bj;injection Bj with Bj;subst Bj
   split at h
   ·rename_i e;subst e
    cases rC:eD lv 0 hh with
    |none=>simp [rC] at h
    |some l=>
     simp [rC] at h;subst h;obtain ⟨A,n,c,A',c',iB,hl1,Bi,Bq,pH,hz,hg⟩:=aI hR hx;obtain ⟨hcap,Zo⟩:=EU hR hlo hhi Bp rC;refine c9 (s:=Instr.sliceAt t (a.eval x) (lo.map a.eval) (hi.map a.eval) none) (by unfold execOp;rw [ho];rfl)
      (v:= .slice (if c'=l then A' else A'.map (·.add (l *s))) (hh-l) (c'-l)) (HC hR hu (by rw [gB,iN];simp [hsz]) pH Bq hlo hhi Bp rC) ?_
     refine ⟨A,_,c,(if c'=l then A' else A'.map (·.add (l *s))),c'-l,iB,by omega,by omega,by omega,by rw [show a'+hh-(a'+l)=hh-l from by omega],fun e=> ?_,fun hlt=> ?_⟩
     ·obtain ⟨rfl,rfl⟩:a'=0∧l=0:=by omega
      obtain ⟨rfl,rfl⟩:=hz rfl;refine ⟨?_,by omega⟩;cases A'<;>simp [add_zero']
     ·obtain ⟨g,rfl,rfl⟩:=hg (by omega)
      refine ⟨g,rfl,?_⟩;rw [if_neg (by omega)];simp [add_lit,Nat.add_mul]
   ·cases h
  ·cases h
 ·cases h
theorem Eo {o:Oper} {x:Operand} {i:Nat} {sv:SV} (ho:o.op= .extract x i) (h:c7 P o st=some sv):jl P μ loc o sv a w:=by
 unfold c7 at h;rw [ho] at h;simp only [] at h;split at h
 ·rename_i vs hx
  cases hg:vs[i]? with
  |none=>simp [hg] at h
  |some y=>
   simp [hg] at h;subst h;have hv:=aI hR hx;simp only [c8,rep] at hv;obtain ⟨us,hv,hall⟩:=hv;obtain ⟨u,hu,hr⟩:=nk hall hg;refine c9 (s:=Instr.extract (a.eval x) i) (by unfold execOp;rw [ho]) (v:=u) ?_ hr;rw [hv];simp [Instr.extract,hu]
 ·rename_i v b hx
  obtain ⟨u,hv,hr⟩:=aI hR hx;split at h
  ·injection h with h;subst h
   refine c9 (s:=Instr.extract (a.eval x) 0) (by unfold execOp;rw [ho]) (v:=u) ?_ hr;rw [hv];simp [Instr.extract]
  ·injection h with h;subst h
   refine c9 (s:=Instr.extract (a.eval x) 1) (by unfold execOp;rw [ho]) (v:= .bool b) ?_ (by simp [c8,rep]);rw [hv];simp [Instr.extract]
  ·cases h
 ·cases h
omit hR in
theorem u6 {ts:List TypeId} {vs:List Value} {cs:List AV} (h:iw P ts vs=some cs):fT μ cs vs:=by
 induction ts generalizing vs cs with
 |nil=>
  cases vs with
  |nil=>simp [iw] at h;subst h;exact ⟨cK,by simp⟩
  |cons v vs=>simp [iw] at h
 |cons t ts ih=>
  cases vs with
  |nil=>simp [iw] at h
  |cons v vs=>
   simp only [iw] at h;split at h
   ·rename_i x xs hx hxs
    injection h with h;subst h
    have hr:=qS (P:=P) (μ:=μ) hx;have k:=ih hxs;refine ⟨bI hr k.1,fun u hu=> ?_⟩;rcases List.mem_cons.1 hu with rfl|hu
    ·unfold ofConst at hx
     split at hx<;>first|rfl|(cases hx)
    ·exact k.2 u hu
   ·cases h
omit hR in
theorem KW {ts:List TypeId} {vs:List Value} {cs:List AV} (h:iw P ts vs=some cs) {k s:Nat} (hk:cs[k]? =some (.aW s [])):∃v,vs[k]? =some v∧v= .slice none 0 0:=by
 induction ts generalizing vs cs k with
 |nil=>
  cases vs with
  |nil=>simp [iw] at h;subst h;simp at hk
  |cons v vs=>simp [iw] at h
 |cons t ts ih=>
  cases vs with
  |nil=>simp [iw] at h
  |cons v vs=>
   simp only [iw] at h;split at h
   ·rename_i x xs hx hxs
    injection h with h;subst h
    cases k with
    |zero=>
     simp at hk;subst hk;refine ⟨v,rfl,?_⟩;unfold ofConst at hx;split at hx
     ·cases hx
     ·cases hx
     ·cases hx
     ·rfl
     ·cases hx
     ·cases hx
     ·split at hx<;>cases hx
     ·cases hx
    |succ k=>obtain ⟨v',h1,h2⟩:=ih hxs (by simpa using hk);exact ⟨v',by simpa using h1,h2⟩
   ·cases h
omit hR in
theorem Kz {cs:List AV}:∀{k:Nat} {vs:List Value} {u:Value} {a:AV},br μ cs vs→vs[k]? =some u→rep μ a u→br μ (cs.set k a) vs:=by
 induction cs with
 |nil=>intro k vs u a h hu _;simp only [br] at h;subst h;simp at hu
 |cons c cs ih=>
  intro k vs u a h hu hr;obtain ⟨v,us,rfl,h1,h2⟩:=h;cases k with
  |zero=>simp at hu;subst hu;exact ⟨v,us,rfl,hr,h2⟩
  |succ k=>exact ⟨v,us,rfl,h1,ih h2 (by simpa using hu) hr⟩
omit hR in
theorem kO {t:TypeId} {z:List AV} (h:zeroCells P t=some z):∃i v,P.info? t=some i∧i.zero=some v∧fT μ z v.cells.toList:=by
 unfold zeroCells at h;split at h
 ·rename_i i hi
  split at h
  ·rename_i v hv
   exact ⟨i,v,hi,hv,u6 h⟩
  ·cases h
 ·cases h
theorem rz {ty:Nat→TypeId} {parts:List (Nat×Operand)} {ps:List (Nat×AV)} (h:partsOf P ty st parts=some ps):
  ps.map (·.1)=parts.map (·.1)∧br μ (ps.map (·.2)) (parts.map fun p=>a.eval p.2):=by
 induction parts generalizing ps with
 |nil=>simp [partsOf] at h;subst h;exact ⟨rfl,cK⟩
 |cons p parts ih=>
  obtain ⟨i,x⟩:=p;simp only [partsOf] at h;split at h
  ·rename_i v vs hv hvs
   injection h with h;subst h
   obtain ⟨h1,h2⟩:=ih hvs;exact ⟨by simp [h1],by simpa using bI (dr hR hv) h2⟩
  ·cases h
omit hR in
theorem A6 (cur:List Value):∀(news:List Value) (off k:Nat),off+k+news.length≤cur.length→
  ((news.zipIdx k).foldl (fun (cs:Array Value) (p:Value×Nat)=>cs.setIfInBounds (off+p.2) p.1) cur.toArray)=(cur.take (off+k)++news++cur.drop (off+k+news.length)).toArray:=by
 intro news
 induction news generalizing cur with
 |nil=>intro off k h;simp
 |cons v news ih=>
  intro off k h;simp only [List.zipIdx_cons,List.foldl_cons];simp only [List.length_cons] at h;have h1:cur.toArray.setIfInBounds (off+k) v=(cur.set (off+k) v).toArray:=by simp
  rw [h1,ih (cur.set (off+k) v) off (k+1) (by simp;omega)]
  congr 1
  rw [←Nat.add_assoc,List.take_succ_eq_append_getElem (by simp;omega)];simp only [List.getElem_set_self,List.take_set_of_le (Nat.le_refl _),List.length_cons];rw [List.drop_set_of_lt (by omega)];simp only [List.append_assoc,List.cons_append,List.nil_append]
  congr 4
  omega
omit hR in
theorem wv {place:Nat→Option (Nat×Nat)} {cells cs:List AV} {vs:List Value} {ps:List (Nat×AV)} {us:List (Nat×Value)}
  (h:rM place cells ps=some cs) (hc:fT μ cells vs) (h1:ps.map (·.1)=us.map (·.1)) (h2:br μ (ps.map (·.2)) (us.map (·.2))) (h3:∀p∈ps,∀x,p.2≠ .dI x):
  ∃ws:List Value,Instr.fill place vs.toArray us=some ws.toArray∧fT μ cs ws:=by
 induction ps generalizing cells vs us with
 |nil=>
  cases us with
  |nil=>simp [rM] at h;subst h;exact ⟨vs,by simp [Instr.fill],hc⟩
  |cons u us=>simp at h1
 |cons p ps ih=>
  cases us with
  |nil=>simp at h1
  |cons u us=>
   obtain ⟨i,x⟩:=p;obtain ⟨i',y⟩:=u;simp only [List.map_cons,List.cons.injEq] at h1;obtain ⟨rfl,h1⟩:=h1;simp only [List.map_cons,br] at h2;obtain ⟨u',us',e,hx,h2⟩:=h2;simp only [List.cons.injEq] at e;obtain ⟨rfl,rfl⟩:=e;simp only [rM] at h;split at h
   ·cases h
   ·rename_i off size vh
    split at h
    ·rename_i dc
     have hxc:=Fl hx (fun z=>h3 (i,x) (by simp) z);have hlen:y.cells.size=size:=by
      have:=hxc.length;simpa [dc.1] using this
     have hvl:=hc.length;have hnews:=((hc.take off).append hxc).append (hc.drop (off+size));obtain ⟨ws,hw,hr⟩:=ih h hnews h1 h2 (fun p hp=>h3 p (by simp [hp]));refine ⟨ws,?_,hr⟩;simp only [Instr.fill,vh];have hle:¬(off+y.cells.size>vs.toArray.size):=by simp;omega
     rw [if_neg (by simp [hlen];omega)];rw [←hw]
     congr 1
     have hsp:=A6 vs y.cells.toList off 0 (by simp;omega);simp only [Nat.add_zero,Array.length_toList,hlen] at hsp;rw [←hsp,←Array.foldl_toList,Array.toList_zipIdx]
    ·cases h
omit hR in
theorem run_places (l:List Field) (hl:l.all (fun f=>(gB P f.type).isSome)=true):
  (l.mapM (fun f=>Prod.mk f.offset<$>sizeOf f.type):Sem (List (Nat×Nat))).run P w= .ok (l.map fun f=>(f.offset,(gB P f.type).getD 0)) w:=by
 induction l with
 |nil=>rfl
 |cons f l ih=>
  simp only [List.all_cons,Bool.and_eq_true] at hl;obtain ⟨n,hn⟩:=Option.isSome_iff_exists.1 hl.1;simp [List.mapM_cons,gl hn,hn,ih hl.2]
omit hR in
theorem A5 {t:List TypeId}:∀{ks:List Nat} {z z':List AV} {vs:List Value},iw P t vs=some z→yI ks z=some z'→fT μ z' vs
 |[],z,z',vs,h,hs=>by
  simp only [yI,Option.some.injEq] at hs;subst hs;exact u6 h
 |k::ks,z,z',vs,h,hs=>by
  simp only [yI] at hs;split at hs
  ·rename_i s hk
   obtain ⟨z1,h1,rfl⟩:=Option.map_eq_some_iff.1 hs;have ih:=A5 h h1;obtain ⟨v,hv,e⟩:=KW h hk;subst e;refine ⟨?_,ih.2⟩;have:=Kz ih.1 hv (a:= .lE) (by simp [rep]);exact this
  ·cases hs
omit hR in
theorem Fy {h:Hint} {d:Option Nat} {t:TypeId} {z:List AV} (hz:Fx P h d t=some z):∃i v,P.info? t=some i∧i.zero=some v∧fT μ z v.cells.toList:=by
 unfold Fx at hz;split at hz
 ·rename_i ks hd
  obtain ⟨z0,h0,h1⟩:=Option.bind_eq_some_iff.1 hz;unfold zeroCells at h0;split at h0
  ·rename_i i hi
   split at h0
   ·rename_i v hv
    exact ⟨i,v,hi,hv,A5 h0 h1⟩
   ·cases h0
  ·cases h0
 ·exact kO hz
theorem vK {o:Oper} {zo:Option (List AV)} {t:TypeId} {parts:Array (Nat×Operand)} {sv:SV} (hzo:∀z,zo=some z→∃i v,P.info? t=some i∧i.zero=some v∧fT μ z v.cells.toList) (ho:o.op= .build t parts) (h:sD P zo t parts st=some sv):jl P μ loc o sv a w:=by
 unfold sD at h;split at h
 ·rename_i fs hu
  split at h
  ·rename_i z ps hps
   split at h
   ·rename_i hnt
    obtain ⟨hnt,PE⟩:=hnt;cases hf:rM (jF P t) z ps with
    |none=>simp [hf] at h
    |some cs=>
     simp [hf] at h;subst h;obtain ⟨i,v,hi,hv,hc⟩:=hzo z rfl;obtain ⟨h1,h2⟩:=rz hR hps
     obtain ⟨ws,hw,hr⟩:=wv (us:=parts.toList.map fun p=>(p.1,a.eval p.2)) hf hc (by simpa [List.map_map,Function.comp_def] using h1) (by simpa [List.map_map,Function.comp_def] using h2) (fun p hp x e=>by
      have:=List.all_eq_true.1 hnt p hp
      rw [e] at this;cases this)
     refine c9 (s:=Instr.build t (parts.map fun p=>(p.1,a.eval p.2))) (by unfold execOp;rw [ho]) (v:= .agg ws.toArray) ?_ ?_
     ·obtain ⟨fl⟩:=fs
      have vh:=run_places (w:=w) fl PE;have hpe:(fun x=>Option.map (fun f:Field=>(f.offset,(gB P f.type).getD 0)) fl[x]?)=jF P t:=by
       funext x
       simp only [jF,qN,hu,List.getElem?_toArray];cases hx:fl[x]? with
       |none=>rfl
       |some fd=>
        obtain ⟨n,hn⟩:=Option.isSome_iff_exists.1 (List.all_eq_true.1 PE fd (List.mem_of_getElem? hx));simp [hn]
      simp only [Array.toArray_toList] at hw;simp [Instr.build,zeroValue,typeInfo,hi,hv,run_underlying hu,vh,hpe,hw]
     ·show rep μ (.agg cs) _
      rw [rep];exact ⟨ws,rfl,hr.1,hr.2⟩
   ·cases h
  ·cases h
 ·rename_i m e hu
  split at h
  ·rename_i z ps s hps hs
   split at h
   ·rename_i hnt
    cases hf:rM (fun i=>some (i *s,s)) z ps with
    |none=>simp [hf] at h
    |some cs=>
     simp [hf] at h;subst h;obtain ⟨i,v,hi,hv,hc⟩:=hzo z rfl;obtain ⟨h1,h2⟩:=rz hR hps
     obtain ⟨ws,hw,hr⟩:=wv (us:=parts.toList.map fun p=>(p.1,a.eval p.2)) hf hc (by simpa [List.map_map,Function.comp_def] using h1) (by simpa [List.map_map,Function.comp_def] using h2) (fun p hp x e=>by
      have:=List.all_eq_true.1 hnt p hp
      rw [e] at this;cases this)
     refine c9 (s:=Instr.build t (parts.map fun p=>(p.1,a.eval p.2))) (by unfold execOp;rw [ho]) (v:= .agg ws.toArray) ?_ ?_
     ·simp only [Array.toArray_toList] at hw
      simp [Instr.build,zeroValue,typeInfo,hi,hv,run_underlying hu,gl hs,hw]
     ·show rep μ (.agg cs) _
      rw [rep];exact ⟨ws,rfl,hr.1,hr.2⟩
   ·cases h
  ·cases h
 ·cases h
theorem JK {o:Oper} {hn:Hint} {t:TypeId} {parts:Array (Nat×Operand)} {sv:SV} (ho:o.op= .build t parts) (h:sD P (Fx P hn o.dst t) t parts st=some sv):jl P μ loc o sv a w:=
 vK hR (fun z hz=>Fy hz) ho h
omit hR in
theorem El {desc:TypeDesc} {kt:TypeId} (hd:P.underlying kt=some desc) {key:AV} {kv:Value} (hk:rep μ key kv) (hok:fI P kt key=true):∀{ks:List AV} {cN:List MapEntry} {r:Option Nat} (i:Nat),br μ ks (cN.map (·.key))→j8 key ks=some r→
  (match r with
  |some j=>∃e,cN[j]? =some e∧Instr.findNow desc kv cN i=some (some (i+j,e.val))∧∃x,ks[j]? =some x∧p9 key x=some true
  |none=>Instr.findNow desc kv cN i=some none):=by
 intro ks
 induction ks with
 |nil=>
  intro cN r i h hf;simp only [j8,Option.some.injEq] at hf;subst hf;rw [br] at h;have:cN=[]:=by simpa using h
  subst this;rfl
 |cons x ks ih=>
  intro cN r i h hf;rw [br] at h;obtain ⟨u,us,e,hx,uv⟩:=h;cases cN with
  |nil=>simp at e
  |cons en cN=>
   simp only [List.map_cons,List.cons.injEq] at e;obtain ⟨rfl,rfl⟩:=e;have same:∀b,p9 key x=some b→Instr.sameNow desc kv en.key=some b:=by
    intro b hb;unfold p9 at hb;split at hb
    ·rename_i s t
     rw [rep] at hk hx;rw [hk,hx];simp only [fI,hd] at hok;cases desc<;>simp at hok;simp only [Instr.sameNow,Nl];exact hb
    ·rename_i k s k' t
     rw [rep] at hk hx;rw [hk,hx];simp only [fI,hd] at hok;cases desc<;>simp at hok;simp only [Instr.sameNow];exact hb
    ·rename_i s t
     rw [rep] at hk hx;rw [hk,hx];simp only [fI,hd] at hok;cases desc<;>simp at hok;simp only [Instr.sameNow];exact hb
    ·cases hb
   simp only [j8] at hf;split at hf
   ·rename_i hs
    injection hf with hf;subst hf
    have hs':=same _ hs;exact ⟨en,rfl,by simp only [Instr.findNow,hs'];simp,x,rfl,hs⟩
   ·rename_i hs
    have hs':=same _ hs;cases hm:j8 key ks with
    |none=>simp [hm] at hf
    |some r'=>
     simp [hm] at hf;subst hf;have h2:=ih (i+1) uv hm;cases r' with
     |none=>simp only [Option.map_none,Instr.findNow,hs'];exact h2
     |some j=>
      obtain ⟨e,he,hf,hx⟩:=h2;exact ⟨e,by simpa using he,by simp only [Instr.findNow,hs',hf];congr 3;omega,by simpa using hx⟩
   ·cases hf
omit hR in
theorem eV {kt:TypeId} {key:AV} {kv:Value} (hk:rep μ key kv) (hok:fI P kt key=true) (b:Bool) (w:World):(Instr.checkKey b 10000 kt kv).run P w= .ok () w:=by
 have key:∀n,(Instr.checkKey b (n+1) kt kv).run P w= .ok () w:=by
  intro n;unfold fI at hok;split at hok
  ·rename_i hu;rw [rep] at hk;subst hk;simp [Instr.checkKey,run_underlying hu]
  ·rename_i hu;rw [rep] at hk;subst hk;simp [Instr.checkKey,run_underlying hu]
  ·rename_i hu;rw [rep] at hk;subst hk;simp [Instr.checkKey,run_underlying hu]
  ·cases hok
 exact key 9999
omit hR in
theorem Mm {kt:TypeId} {key:AV} (hok:fI P kt key=true):∃desc,P.underlying kt=some desc:=by
 unfold fI at hok;split at hok
 ·exact ⟨_, ‹_›⟩
 ·exact ⟨_, ‹_›⟩
 ·exact ⟨_, ‹_›⟩
 ·cases hok
omit hR in
theorem jA {kt:TypeId} {key:AV} {kv:Value} (hk:rep μ key kv) (hok:fI P kt key=true) {ks:List AV} {cN:List MapEntry} {r:Option Nat} (h:br μ ks (cN.map (·.key))) (hf:j8 key ks=some r) (w:World):
  match r with
  |some j=>∃e,cN[j]? =some e∧(Instr.findKey kt kv cN).run P w= .ok (some (j,e.val)) w∧∃x,ks[j]? =some x∧p9 key x=some true
  |none=>(Instr.findKey kt kv cN).run P w= .ok none w:=by
 obtain ⟨desc,hd⟩:=Mm hok;have h1:=El hd hk hok 0 h hf;cases r with
 |none=>simp only [] at h1⊢;simp [Instr.findKey,run_underlying hd,h1]
 |some j=>
  obtain ⟨e,he,hn,hx⟩:=h1;exact ⟨e,he,by simp [Instr.findKey,run_underlying hd,hn],hx⟩
omit hR in
theorem u7 {t:TypeId} {z:AV} (h:j7 P t=some z) (w:World):∃v,(zeroValue t).run P w= .ok v w∧rep μ z v:=by
 unfold j7 at h;split at h
 ·rename_i i hi
  have hrun:∀v,i.zero=some v→(zeroValue t).run P w= .ok v w:=fun v hv=>by simp [zeroValue,typeInfo,hi,hv]
  split at h
  ·rename_i cs hz
   cases hc:iw P (oE P 8 t) cs.toList with
   |none=>simp [hc] at h
   |some zs=>
    simp [hc] at h;subst h;have hr:=u6 (μ:=μ) hc;refine ⟨_,hrun _ hz,?_⟩;rw [rep];exact ⟨cs.toList,by simp,hr.1,hr.2⟩
  ·rename_i v _ hz
   exact ⟨v,hrun v hz,qS h⟩
  ·cases h
 ·cases h
theorem Gd {o:Oper} {t:TypeId} {x k:Operand} {ok:Bool} {sv:SV} (ho:o.op= .lookup t x k ok) (h:c7 P o st=some sv):jl P μ loc o sv a w:=by
 unfold c7 at h;rw [ho] at h;simp only [] at h;split at h
 ·rename_i kt et hu
  split at h
  ·rename_i ks key hx hk
   cases hok:(ok&&fI P kt key&&(j7 P et).isSome) with
   |false=>rw [hok] at h;cases h
   |true=>
    simp only [hok,cond_true,Option.map_eq_some_iff] at h;obtain ⟨r,hf,rfl⟩:=h;simp only [Bool.and_eq_true] at hok;obtain ⟨⟨hok1,hok⟩,Uy⟩:=hok;subst hok1;have hkr:=dr hR hk;obtain ⟨sx,Yt,Uw⟩:=Option.bind_eq_some_iff.1 hx;unfold AF at Uw;split at Uw
    ·rename_i id
     split at Uw
     ·rename_i k' e' sz' ks' vs' cu
      injection Uw with Uw;subst Uw
      have hv:a.eval x=cV (loc id):=aI hR Yt;obtain ⟨b,cN,clock,us,hl,_,hh,_,h1,h2,h3,h4,h5,_⟩:=hR.obs id _ cu;have hv:a.eval x= .map (some b):=by rw [hv,hl];rfl
      have D9:=jA hkr hok h1 hf w;have fin:∀y,(Instr.lookup t (a.eval x) (a.eval k) true).run P w= .ok (.tuple #[y, .bool r.isSome]) w→jl P μ loc o (.two .any r.isSome) a w:=fun y hr=>
       c9 (s:=Instr.lookup t (a.eval x) (a.eval k) true) (by unfold execOp;rw [ho]) hr ⟨y,rfl,trivial⟩
      cases r with
      |none=>
       simp only [] at D9;obtain ⟨z,hz⟩:=Option.isSome_iff_exists.1 Uy;obtain ⟨zv,Yz,_⟩:=u7 (μ:=μ) hz w;refine fin zv ?_;rw [hv];simp [Instr.lookup,run_underlying hu,eL hh,eV hkr hok,D9,Yz]
      |some j=>
       obtain ⟨e,he,hrun,_⟩:=D9;refine fin e.val ?_;rw [hv];simp [Instr.lookup,run_underlying hu,eL hh,eV hkr hok,hrun]
     ·cases Uw
    ·cases Uw
  split at h
  ·rename_i ks vs key hx hk
   cases hok:fI P kt key with
   |false=>simp [hok] at h
   |true=>
    simp only [hok,cond_true] at h;have hkr:=dr hR hk;obtain ⟨sx,Yt,Uw⟩:=Option.bind_eq_some_iff.1 hx;have hm:=De hR Uw (aI hR Yt);have fin:∀(y:AV) (b:Bool) (yv:Value),rep μ y yv→rep μ (found ok y b) (if ok=true then .tuple #[yv, .bool b] else yv):=fun y b yv hy=>by
     cases ok with
     |false=>exact hy
     |true=>simp only [found,cond_true,if_true];rw [rep];exact ⟨[yv, .bool b],rfl,bI hy (bI (by simp [rep]) cK)⟩
    have run:∀(y:AV) (b:Bool) (yv:Value),rep μ y yv→(Instr.lookup t (a.eval x) (a.eval k) ok).run P w= .ok (if ok=true then .tuple #[yv, .bool b] else yv) w→jl P μ loc o (.pv (found ok y b)) a w:=fun y b yv hy hr=>
     c9 (s:=Instr.lookup t (a.eval x) (a.eval k) ok) (by unfold execOp;rw [ho]) hr (fin y b yv hy)
    unfold Kb at h;rcases hm with ⟨hv,rfl,rfl⟩|⟨b,cN,clock,hv,hh,h1,h2⟩
    ·simp only [j8] at h
     cases hz:j7 P et with
     |none=>simp [hz] at h
     |some z=>
      simp [hz] at h;subst h;obtain ⟨zv,Yz,Sx⟩:=u7 (μ:=μ) hz w;refine run z false zv Sx ?_;have D9:=jA hkr hok (ks:=[]) (cN:=[]) (r:=none) (by simp [br]) rfl w;simp only [] at D9;rw [hv];simp [Instr.lookup,run_underlying hu,eV hkr hok,D9,Yz]
    ·cases hf:j8 key ks with
     |none=>simp [hf] at h
     |some r=>
      have D9:=jA hkr hok h1 hf w;cases r with
      |none=>
       simp only [hf] at h;cases hz:j7 P et with
       |none=>simp [hz] at h
       |some z=>
        simp [hz] at h;subst h;obtain ⟨zv,Yz,Sx⟩:=u7 (μ:=μ) hz w;refine run z false zv Sx ?_;simp only [] at D9;rw [hv];simp [Instr.lookup,run_underlying hu,eL hh,eV hkr hok,D9,Yz]
      |some j=>
       simp only [hf] at h;cases hg:vs[j]? with
       |none=>simp [hg] at h
       |some y=>
        simp [hg] at h;subst h;obtain ⟨e,he,hrun,_⟩:=D9;obtain ⟨yv,yR,hyr⟩:=nk h2 hg;have:yv=e.val:=by
         simp [List.getElem?_map] at yR;have he':cN[j]? =some e:=by simpa using he
         simp [he'] at yR;exact yR.symm
        subst this;refine run y true e.val hyr ?_;rw [hv];simp [Instr.lookup,run_underlying hu,eL hh,eV hkr hok,hrun]
  ·cases h
 ·cases h
theorem Ge {o:Oper} {t:TypeId} {x mx:Operand} {lo hi:Option Operand} {sv:SV} (ho:o.op= .slice t x lo hi (some mx)) (h:c7 P o st=some sv):jl P μ loc o sv a w:=by
 unfold c7 at h;rw [ho] at h;simp only [N6] at h;split at h
 rotate_left
 ·cases h
 rename_i hi;split at h
 ·rename_i id hx
  split at h
  ·rename_i e2 sz xs e s ka va kb vb cu hs hh hm
   split at h
   ·rename_i hc
    obtain ⟨rfl,rfl,rfl⟩:=hc;injection h with h;subst h
    obtain ⟨hu,inf,iN,hsz⟩:=dV hs;have pH:a.eval x=loc id:=(aI hR hx:a.eval x=cV (loc id)).trans (eO (hR.obs id _ cu));have hhv:=aI hR hh;have qD:=aI hR hm;simp only [c8,rep] at hhv qD;obtain ⟨vs,hown,hrc,_⟩:=hR.obs id _ cu;obtain ⟨A,c,iB,hlc,hA⟩:∃A c,loc id= .slice A xs.length c∧xs.length≤c∧(A.map (·.add (0 *s))=A):=by
     rcases hown.2 with ⟨e1,e2⟩|⟨g,cap,cur,e1,h2,h3,h4⟩
     ·exact ⟨none,0,by rw [e1,e2],by omega,rfl⟩
     ·exact ⟨_,cap,e1,h4.1,by simp [add_zero']⟩
    refine c9 (s:=Instr.sliceAt t (a.eval x) (none:Option Value) (some (a.eval hi)) (some (a.eval mx))) (by unfold execOp;rw [ho];rfl) (v:= .slice A xs.length xs.length) ?_ ⟨A,xs.length,c,iB,rfl⟩;rw [pH,iB,hhv,qD];have h1:((xs.length:Nat):Int)≤(c:Int):=by omega
    have hz:(if xs.length=0 then A else A.map (·.add (0 *s)))=A:=by split<;>simp_all
    simp only [Nat.zero_mul] at hz;simp [Instr.sliceAt,Instr.slice,run_underlying hu,Instr.sliceBounds,Instr.sliceBound,asIntOf,sizeOf,typeInfo,iN,hsz,h1,hz,hlc];intro _;simpa using hA
   ·cases h
  ·cases h
 ·cases h
theorem qu {o:Oper} {sv:SV} (h:c7 P o st=some sv):jl P μ loc o sv a w:=by
 have h':=h;unfold c7 at h';split at h'
 ·rename_i x ho;exact wz hR (.inl ho) h'
 ·rename_i x ho;exact wz hR (.inr ho) h'
 ·rename_i ho;exact LX hR ho h
 ·rename_i ho;exact Pw hR ho h
 ·rename_i ho;exact Sc hR ho h
 ·rename_i ho;exact Em hR ho h
 ·rename_i ho;exact Aw hR ho h'
 ·rename_i ho;exact CA hR ho h
 ·rename_i ho;exact Be hR ho h
 ·rename_i ho;exact JL hR ho h
 ·rename_i ho;exact Bf hR ho h
 ·rename_i ho;exact JM hR ho h
 ·rename_i ho;exact LW hR ho h
 ·rename_i ho;exact JN hR ho h
 ·rename_i ho;exact Ge hR ho h
 ·rename_i ho;exact Eo hR ho h
 ·rename_i ho;exact Gd hR ho h
 ·rename_i ho;exact vK hR (fun z hz=>kO hz) ho (by unfold c7 at h;rw [ho] at h;exact h)
 ·cases h'
end
end
end Go.AM
