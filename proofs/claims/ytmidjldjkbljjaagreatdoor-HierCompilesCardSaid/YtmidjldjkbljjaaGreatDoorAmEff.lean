/- THE ABSTRACT MACHINE. -/
import Derived.Test.YtmidjldjkbljjaaGreatDoorAmStep
set_option linter.unusedVariables false
set_option linter.unusedSimpArgs false
namespace Go.AM
open Go.RowKit
section
variable {μ μ':Mu} {loc:Nat→Value}
theorem sd {sz b:Nat} {xs:List (List AV)} {vs:List Value} {off:Nat} (h:cG μ sz xs vs) (hle:μ.le μ') (hc:∀j u,vs[j]? =some u→μ' b (off+j)=some u):fB μ' sz b xs off:=by
 induction xs generalizing vs off with
 |nil=>simp [fB]
 |cons x xs ih=>
  obtain ⟨us,ws,rfl,h1,h2,h3⟩:=h;rw [fB];refine ⟨⟨us,(h1.mono hle).1,h1.2,h2,fun j u hu=>hc j u ?_⟩,ih h3 fun j u hu=> ?_⟩
  ·rw [List.getElem?_append_left (by simpa using (List.getElem?_eq_some_iff.1 hu).1)];exact hu
  ·have:=hc (sz+j) u (by rw [List.getElem?_append_right (by omega),h2];simpa using hu)
   rwa [←Nat.add_assoc] at this
theorem mI {sz:Nat} {xs ys:List (List AV)} {vs us:List Value} (h:cG μ sz xs vs) (k:cG μ sz ys us):cG μ sz (xs++ys) (vs++us):=by
 induction xs generalizing vs with
 |nil=>have:vs=[]:=h;subst this;simpa using k
 |cons x xs ih=>obtain ⟨a,b,rfl,h1,h2,h3⟩:=h;exact ⟨a,b++us,by simp,h1,h2,ih h3⟩
theorem jW {sz:Nat} {z:List AV} {zs:List Value} (h:gB μ z zs) (hl:zs.length=sz):∀n,cG μ sz (List.replicate n z) (List.replicate n zs).flatten
 |0=>rfl
 |n+1=>⟨zs,(List.replicate n zs).flatten,by simp [List.replicate_succ],h,hl,jW h hl n⟩
theorem se {sz:Nat}:∀(n:Nat) {cs:List AV} {vs:List Value},gB μ cs vs→cs.length=n *sz→cG μ sz (chunks sz n cs) vs
 |0,cs,vs,h,hl=>by
  have:vs=[]:=List.eq_nil_of_length_eq_zero (by rw [h.length];omega);subst this;rfl
 |n+1,cs,vs,h,hl=>by
  rw [Nat.add_mul] at hl;have hv:=h.length;exact ⟨vs.take sz,vs.drop sz,by simp,h.take sz,by simp;omega,se n (h.drop sz) (by simp;omega)⟩
theorem w8 {z:List AV} {zs:List Value} (h:gB μ z zs):∀n,gB μ (mz z n) (List.replicate n zs).flatten
 |0=>⟨bZ,by simp⟩
 |n+1=>by simpa [mz,List.replicate_succ] using h.append (w8 h n)
theorem r9 (z:List AV):∀n,(mz z n).length=n *z.length
 |0=>by simp [mz]
 |n+1=>by simp [mz,r9 z n,Nat.add_mul];omega
theorem uA (sz:Nat):∀(n:Nat) (l:List AV),(chunks sz n l).length=n
 |0,_=>rfl
 |n+1,l=>by simp [chunks,uA sz n]
theorem dX {id:Nat} {s:SV} {v:Value} (k:cW μ loc s v):cW μ loc (s.bV id) v:=by
 unfold SV.bV;cases s.mentions id with
 |true=>trivial
 |false=>exact k
theorem Gr {id:Nat} {s:SV} {v:Value} {x:AV} (k:cW μ loc s v) (hx:rep μ x (dR (loc id))):cW μ loc (s.cQ id x) v:=by
 cases s with
 |row j=>
  cases h:Nat.beq j id with
  |true=>
   simp only [SV.cQ,h,cond_true];have:=beq_iff.1 h;subst this;have e:v=dR (loc j):=k;rw [e];exact hx
  |false=>simp only [SV.cQ,h,cond_false];exact k
 |_=>exact dX k
theorem Jh {id:Nat} {v:Value} (h:dR v=v):cW μ (uR loc id v) (.row id) v:=by
 show v=dR (uR loc id v id);rw [cC,h]
theorem q7 (zc:Array Value) (s:Nat) (hz:zc.size=s) (hs:0<s) (n:Nat):(madeCells zc (n *s)).toList=(List.replicate n zc.toList).flatten:=by
 have key:∀n,(List.range (n *s)).map (fun i=>zc[i % s]!)=(List.replicate n zc.toList).flatten:=by
  intro n
  induction n with
  |zero=>simp
  |succ n ih=>
   rw [Nat.succ_mul,Nat.add_comm,List.range_add,List.map_append,List.map_map];have h1:(List.range s).map (fun i=>zc[i % s]!)=zc.toList:=by
    apply List.ext_getElem?;intro i;simp only [List.getElem?_map,List.getElem?_range];by_cases hi:i<s
    ·simp [hi,List.getElem?_range,Nat.mod_eq_of_lt hi,hz,getElem!_pos,Array.getElem?_eq_getElem (show i<zc.size by omega)]
    ·simp [hi,List.getElem?_eq_none (show zc.toList.length≤i by simp;omega),List.getElem?_eq_none (show (List.range s).length≤i by simp;omega)]
   have h2:((fun i=>zc[i % s]!)∘fun x=>s+x)=fun i=>zc[i % s]! :=by
    funext i;simp [Function.comp]
   rw [h1,h2,ih];simp [List.replicate_succ]
 have:=key n;simpa [madeCells,hz] using this
theorem GY (zs:List Value) {l c:Nat} (h:l≤c):(List.replicate c zs).flatten.take (l *zs.length)=(List.replicate l zs).flatten:=by
 obtain ⟨d,rfl⟩:=Nat.exists_eq_add_of_le h;rw [←List.replicate_append_replicate,List.flatten_append,List.take_append_of_le_length (by simp)];exact List.take_of_length_le (by simp)
end
section
variable {P:Program} {N:Nat} {w0:World} {μ0:Mu} {L:lp} {μ:Mu} {loc:Nat→Value} {st st':St} {a:Act} {w:World} {Q:Exit→Act→World→Prop} {K:Act→World→Prop}
theorem Jj {e sz:Nat} {xs:List (List AV)} {u:Value} {cells:List Value} (hown:w.ownsRow 0 e sz u xs.length cells) (hrc:cG μ sz xs cells) {μ':Mu} (hle:μ.le μ')
  (hm:∀b j v,bX u=some b→Au w b j=some v→μ' b j=some v):rep μ' (.cm sz xs) u:=by
 have hone:=kF hrc;rw [rep];rcases hown.2 with ⟨e1,e2⟩|⟨g,cap,cur,e1,_,hg,hnc,hcm,_⟩
 ·exact ⟨none,0,by rw [e1,e2],by omega,by simp [maxLen], .inl e2⟩
 ·refine ⟨_,cap,e1,hnc,hcm, .inr ⟨g,0,rfl,sd hrc hle fun j u hu=> ?_⟩⟩
  have:=hown.cells (g:=g) (by rw [e1];rfl) j u hu;rw [add_lit] at this;exact hm g _ u (by rw [e1];rfl) (mB this (hone u (List.mem_of_getElem? hu)))
theorem zp {α:Type}:∀{vs:List (Option α)} {l:List α},lM vs=some l→vs=l.map some
 |[],l,h=>by simp only [lM,Option.some.injEq] at h;subst h;rfl
 |none::vs,l,h=>by simp [lM] at h
 |some x::vs,l,h=>by
  simp only [lM,Option.map_eq_some_iff] at h;obtain ⟨l',h1,rfl⟩:=h;simp [zp h1]
theorem NZ {n0:Nat} {id:Nat} {o:Ob} {v:AV} (h:gV n0 L μ loc w id o) (hv:o.val=some v) {μ':Mu} (hle:μ.le μ')
  (hm:∀b j v,gi (loc id) b→Au w b j=some v→μ' b j=some v):rep μ' v (dR (loc id)):=by
 cases o with
 |box t cells=>simp [Ob.val] at hv
 |it s n=>simp [Ob.val] at hv
 |row e sz xs=>
  simp only [Ob.val,Option.some.injEq] at hv;subst hv;rw [iG h];obtain ⟨vs,hown,hrc,_⟩:=h;exact Jj hown hrc hle (fun b j v hb=>hm b j v (.inl hb))
 |mp k e ks es=>
  simp only [Ob.val,Option.some.injEq] at hv;subst hv;rw [Mt h];obtain ⟨b,bK,clock,hl,_,hh,_,h1,h2,_⟩:=h;rw [rep,hl];exact .inr ⟨b,_,_,rfl,dr hle _ _ h1,dr hle _ _ h2,hm b 0 _ (by rw [hl];exact mU.2 rfl) (Cc hh)⟩
 |mr k e sz ks vs=>
  simp only [Ob.val,Option.map_eq_some_iff] at hv;obtain ⟨l,hal,rfl⟩:=hv;obtain ⟨b,bK,clock,us,hl,_,hh,_,h1,h2,h3,h4,h5,h6⟩:=h;have hvs:=zp hal;rw [hl,rep];refine .inr ⟨b,_,bK.toList.map (·.val),rfl,dr hle _ _ h1,?_,hm b 0 _ (by rw [hl];exact iN.2 (.inl rfl)) (Cc hh)⟩;have key:∀(l:List (List (List AV))) (es:List Value),es.length=l.length→(∀(i:Nat) xs,l[i]? =some xs→∃u,es[i]? =some u∧rep μ' (.cm sz xs) u)→bF μ' (l.map (.cm sz)) es:=by
   intro l
   induction l with
   |nil=>intro es he _;rw [List.eq_nil_of_length_eq_zero he];exact bZ
   |cons x l ih=>
    intro es he hall;cases es with
    |nil=>simp at he
    |cons u es=>
     obtain ⟨u',Ao,hr⟩:=hall 0 x (by simp);simp at Ao;subst Ao
     exact bq hr (ih es (by simpa using he) (fun i xs hi=>by
      obtain ⟨u2,XC,PF⟩:=hall (i+1) xs (by simpa using hi)
      exact ⟨u2,by simpa using XC,PF⟩))
  refine key l _ (by simp [h3,hvs]) (fun i xs hi=> ?_);obtain ⟨u,cells,k1,k2,k3,k4,k5⟩:=h4 i xs (by rw [hvs];simp [hi]);exact ⟨u,k2,Jj k3 k4 hle (fun g j v hg=>hm g j v (by rw [hl];exact iN.2 (.inr ⟨u,List.mem_of_getElem? k1,hg⟩)))⟩
open Classical in
noncomputable def jh (w:World) (loc:Nat→Value) (id:Nat) (μ:Mu):Mu:=fun b j=>if gi (loc id) b then Au w b j else μ b j
theorem Rel.Tu (hR:Rel N w0 μ0 L μ loc st a w) {id:Nat} {o:Ob} (cU:st.ob id=some o) (hlt:id<10000) (f:SV→SV) (g:Ob→Ob) (hf:∀s v,cW (jh w loc id μ) loc s v→cW (jh w loc id μ) loc (f s) v)
  (hg:∀ob,g ob=match ob with| .box t cells=> .box t (cells.map f)|o=>o):
  μ.le (jh w loc id μ)∧Rel N w0 μ0 L (jh w loc id μ) loc { env:=fun i=>(st.env i).map f,ob:=put (fun i=>(st.ob i).map g) id none } a w:=by
 have hok:=hR.obs id _ cU;have OH:∀(cs:List SV) (vs:List Value),eD (jh w loc id μ) loc cs vs→eD (jh w loc id μ) loc (cs.map f) vs:=by
  intro cs
  induction cs with
  |nil=>intro vs h;exact h
  |cons c cs ih=>rintro vs ⟨u,us,e,h1,h2⟩;exact ⟨u,us,e,hf _ _ h1,ih us h2⟩
 have hle:μ.le (jh w loc id μ):=fun b j v hv=>by
  by_cases hb:gi (loc id) b
  ·have:=(hok.block b hb).2.2 j;rw [this] at hv;cases hv
  ·simpa [jh,hb] using hv
 have Xu:∀i oi,i≠id→st.ob i=some oi→∀b,gi (loc i) b→∀j,jh w loc id μ b j=none:=fun i oi hne hi b hb j=>by
  have hn:¬gi (loc id) b:=fun hid=>hR.apart id i _ oi cU hi (fun e=>hne e.symm) b hid hb
  simp only [jh,if_neg hn];exact (hR.obs i oi hi).block b hb|>.2.2 j
 have h1:=(hR.drop id).world (w':=w) (μ':=jh w loc id μ) hle (fun b j v hv=>by
   by_cases hb:gi (loc id) b
   ·rcases (hok.block b hb).1 with hh|⟨v,hh,_⟩
    ·exact .inr hh
    ·rw [hR.names id hlt] at hh;cases hh
   ·exact .inl (by simpa [jh,hb] using hv)) (fun b j v hv=>by
   by_cases hb:gi (loc id) b
   ·simpa [jh,hb] using hv
   ·exact hR.r7 b j v (by simpa [jh,hb] using hv)) (fun i oi hi b hb=>by
   by_cases e':id=i
   ·subst e';simp [bT] at hi
   ·simp only [aX _ _ e'] at hi
    exact ⟨rfl,Xu i oi (fun e=>e' e.symm) hi b hb⟩) (fun _ _ _=>rfl) rfl rfl rfl (Nat.le_refl _)
 refine ⟨hle,h1.small,h1.names,h1.fix,h1.size,h1.defers,?_,h1.r7,h1.base,?_,?_,h1.keep,h1.os,h1.tape,h1.output,h1.grown,h1.drawn⟩
 ·intro i s hi
  simp only [] at hi;cases he:st.env i with
  |none=>simp [he] at hi
  |some s'=>
   simp [he] at hi;subst hi;obtain ⟨v,hv,hr⟩:=h1.env i s' he;exact ⟨v,hv,hf _ _ hr⟩
 ·intro i oi hi
  by_cases e':id=i
  ·subst e';simp [bT] at hi
  ·simp only [aX _ _ e'] at hi
   cases ho:st.ob i with
   |none=>simp [ho] at hi
   |some oj=>
    simp [ho] at hi;subst hi;have k:=h1.obs i oj (by simpa only [aX _ _ e'] using ho);rw [hg];cases oj with
    |box t cells=>
     obtain ⟨b,vs,hl,ho',hh,hm,hs,KA⟩:=k;exact ⟨b,vs,hl,ho',hh,hm,OH _ _ hs,KA⟩
    |row e2 sz2 xs2=>exact k
    |mp k2 e2 ks2 YW=>exact k
    |mr k2 e2 s2 ks2 YW=>exact k
    |it s2 n2=>exact k
 ·intro i j oi oj hi hj hij
  have get:∀k ok,put (fun i=>(st.ob i).map g) id none k=some ok→∃ok',st.ob k=some ok':=fun k ok hk=>by
   by_cases e':id=k
   ·subst e';simp [bT] at hk
   ·simp only [aX _ _ e'] at hk
    cases ho:st.ob k with
    |none=>simp [ho] at hk
    |some x=>exact ⟨x,rfl⟩
  obtain ⟨PI,hi'⟩:=get i oi hi;obtain ⟨Tm,hj'⟩:=get j oj hj;exact hR.apart i j PI Tm hi' hj' hij
theorem Tp {id:Nat} (h:s4 id=true):id<10000:=by simpa [s4,Nat.blt_eq] using h
theorem Rel.cQ (hR:Rel N w0 μ0 L μ loc st a w) {id:Nat} (h:st.cQ id=some st'):∃μ',μ.le μ'∧Rel N w0 μ0 L μ' loc st' a w:=by
 unfold St.cQ at h;split at h
 ·rename_i v hid ql
  injection h with h
  subst h;obtain ⟨o,cU,hval⟩:=Option.bind_eq_some_iff.1 ql;have hok:=hR.obs id _ cU;have hle:μ.le (jh w loc id μ):=fun b j v hv=>by
   by_cases hb:gi (loc id) b
   ·have:=(hok.block b hb).2.2 j;rw [this] at hv;cases hv
   ·simpa [jh,hb] using hv
  have qV:rep (jh w loc id μ) v (dR (loc id)):=NZ hok hval hle fun b j v hb hc=>by simpa [jh,hb] using hc
  exact ⟨_,hR.Tu cU (Tp hid) (SV.cQ id v) (Ob.cQ id v) (fun s u hs=>Gr hs qV) (fun ob=>by cases ob<;>rfl)⟩
 ·cases h
theorem Rel.ij (hR:Rel N w0 μ0 L μ loc st a w) {id:Nat} (h:st.ij id=some st'):∃μ',μ.le μ'∧Rel N w0 μ0 L μ' loc st' a w:=by
 unfold St.ij at h;split at h
 ·rename_i t cells hid cU
  split at h
  ·rename_i cs hcs
   injection h with h
   subst h;obtain ⟨b,vs,hl,ho,hh,hm,hs,h1⟩:=hR.obs id _ cU;have hle:μ.le (jh w loc id μ):=fun b' j v hv=>by
    by_cases hb:gi (loc id) b'
    ·have:=((hR.obs id _ cU).block b' hb).2.2 j;rw [this] at hv;cases hv
    ·simpa [AM.jh,hb] using hv
   have hc:gB (jh w loc id μ) cs vs:=⟨dr hle _ _ (zo hcs hs),h1⟩
   refine ⟨_,hR.Tu cU (Tp hid) (SV.ij id cs) (Ob.ij id cs) (fun s u hs=> ?_) (fun ob=>by cases ob<;>rfl)⟩;cases s with
   |ptr j off=>
    simp only [SV.ij];cases hj:Nat.beq j id with
    |false=>exact hs
    |true=>
     have:=beq_iff.1 hj;subst this;obtain ⟨b',hl',rfl⟩:=hs;rw [hl] at hl';simp only [Value.pointer.injEq,Option.some.injEq,Addr.mk.injEq] at hl';obtain ⟨rfl,_⟩:=hl';refine ⟨b,off,vs.drop off,rfl,hc.drop off,fun k u hu=> ?_⟩;rw [List.getElem?_drop] at hu;have e:gi (loc j) b:=by rw [hl];exact jH.2 rfl
     simp only [AM.jh,if_pos e];exact mB (by rw [cell_of_row w b (off+k) vs.toArray t (0,0) hh];simpa using hu) (h1 u (List.mem_of_getElem? hu))
   |undef=>exact dX hs
   |any=>exact dX hs
   |pv x=>exact dX hs
   |row j=>exact dX hs
   |rp j sz i off=>exact dX hs
   |sub j sz lo hi=>exact dX hs
   |cp c=>exact dX hs
   |cl f caps=>exact dX hs
   |ag caps=>exact dX hs
   |two s b=>exact dX hs
  ·cases h
 ·cases h
theorem Dr (hR:Rel N w0 μ0 L μ loc st a w):∀{xs:List Operand} {st st':St} {μ:Mu},Rel N w0 μ0 L μ loc st a w→oW st xs=some st'→∃μ',μ.le μ'∧Rel N w0 μ0 L μ' loc st' a w:=by
 intro xs
 induction xs with
 |nil=>intro st st' μ h hp;simp only [oW,Option.some.injEq] at hp;subst hp;exact ⟨μ,Mu.le.refl _,h⟩
 |cons x xs ih=>
  intro st st' μ h hp;cases x with
  |tmp i=>
   simp only [oW] at hp;split at hp
   ·rename_i id off hi
    cases h1:st.ij id with
    |none=>rw [h1] at hp;cases hp
    |some st1=>
     rw [h1] at hp;obtain ⟨μ1,hle1,Fy⟩:=h.ij h1;obtain ⟨μ2,hle2,PC⟩:=ih Fy hp;exact ⟨μ2,hle1.trans hle2,PC⟩
   ·exact ih h hp
  |const v=>exact ih h hp
  |func f=>exact ih h hp
  |global g=>exact ih h hp
theorem ez {o:Oper} {v:Value} {w':World} (hr:(execOp a.eval o).run P w= .ok (.value v) w') (hK:K (a.put o.dst v) w'):o.wp P a w K Q:=by
 unfold Oper.wp;rw [hr];exact hK
def ku (N:Nat) (w0:World) (μ0:Mu) (L:lp) (st':St) (K:Act→World→Prop):Prop:=∀a' w' μ' loc',Rel N w0 μ0 L μ' loc' st' a' w'→K a' w'
theorem kM (hR:Rel N w0 μ0 L μ loc st a w) {o:Oper} {sv:SV} (hd:∀i,o.dst=some i→i<N) (hg:jf P μ loc o sv a w) (hK:ku N w0 μ0 L (st.set o.dst sv) K):o.wp P a w K Q:=by
 obtain ⟨v,hr,hs⟩:=hg;exact ez hr (hK _ _ _ _ (hR.set hd hs))
theorem sV (hR:Rel N w0 μ0 L μ loc st a w):∀b,w.heap.size≤b→∀j,μ b j=none:=fun b hb j=>by
 cases hj:μ b j with
 |none=>rfl
 |some v=>
  have:=tu (hR.r7 b j v hj);omega
theorem mc (w:World) (o:Obj):Below w.heap.size w (w.alloc o):=(Below.refl _ _).alloc (Nat.le_refl _) o
theorem Rel.made (hR:Rel N w0 μ0 L μ loc st a w) {d:Nat} (hd:d<N) {x:Obj} {val:Value} {o:Ob} {sv:SV} (hval:∀g,gi val g→g=w.heap.size)
  (cU:gV w0.heap.size L μ (uR loc d val) (w.alloc x) d o) (hs:cW μ (uR loc d val) sv val):
  Rel N w0 μ0 L μ (uR loc d val) ((st.new d o).set (some d) sv) (a.put (some d) val) (w.alloc x):=by
 have h1:=(hR.MJ (mc w x)).new (id:=d) (val:=val) (o:=o) (.inl (Nat.lt_of_lt_of_le hd hR.small)) cU (fun j oj hj hne g hg=>by
  have:=hval g hg;subst this;intro hb;have:=((hR.obs j oj hj).block _ hb).2.1
  omega)
 exact h1.set (fun i hi=>by injection hi with hi;omega) hs
theorem vS {o:Oper} {t:TypeId} {d:Nat} {v:Value} {cells:List SV} (hR:Rel N w0 μ0 L μ loc st a w) (hd:d<N) (cK:o.dst=some d)
  (hr:(execOp a.eval o).run P w= .ok (.value (.pointer (some ⟨w.heap.size,0,none⟩))) (w.alloc (.cells v.cells t)))
  (hs:eD μ (uR loc d (.pointer (some ⟨w.heap.size,0,none⟩))) cells v.cells.toList) (h1:∀u∈v.cells.toList,u.oneCell'=true)
  (hK:ku N w0 μ0 L ((st.new d (.box t cells)).set (some d) (.ptr d 0)) K):o.wp P a w K Q:=by
 refine ez hr ?_;rw [cK];refine hK _ _ _ _ (hR.made hd (by simp [gi,bX,eq_comm]) ?_ ?_)
 ·refine ⟨w.heap.size,v.cells.toList,cC _ _ _, .inl hR.grown,?_,sV hR _ (Nat.le_refl _),hs,h1⟩
  rw [Array.toArray_toList];exact heap_alloc_new w _
 ·exact ⟨w.heap.size,cC _ _ _,rfl⟩
theorem LS (hR:Rel N w0 μ0 L μ loc st a w) {s:SV} {v:Value} (h:kX st s=true) (k:cW μ loc s v):v.oneCell'=true∧v.cells= #[v]:=by
 cases s with
 |undef=>simp [kX] at h
 |any=>simp [kX] at h
 |pv x=>
  cases x with
  |agg cs=>simp [kX] at h
  |fG cs=>simp [kX] at h
  |self n=>simp only [cW,rep] at k
  |ri=>simp only [cW,rep] at k;subst k;exact ⟨rfl,rfl⟩
  |bool b=>simp only [cW,rep] at k;subst k;exact ⟨rfl,rfl⟩
  |int q n=>simp only [cW,rep] at k;subst k;exact ⟨rfl,rfl⟩
  |str q=>simp only [cW,rep] at k;subst k;exact ⟨rfl,rfl⟩
  |cm sz xs=>simp only [cW,rep] at k;obtain ⟨A,c,rfl,_⟩:=k;exact ⟨rfl,rfl⟩
  |fn f caps=>simp only [cW,rep] at k;obtain ⟨vs,rfl,_⟩:=k;exact ⟨rfl,rfl⟩
  |ref cs=>simp only [cW,rep] at k;obtain ⟨b,off,vs,rfl,_⟩:=k;exact ⟨rfl,rfl⟩
  |mp ks es=>simp only [cW,rep] at k;rcases k with ⟨rfl,_⟩|⟨b,kv,ev,rfl,_⟩<;>exact ⟨rfl,rfl⟩
 |ptr id off=>obtain ⟨b,_,rfl⟩:=k;exact ⟨rfl,rfl⟩
 |row id=>
  simp only [kX] at h;split at h
  ·rename_i e sz xs cU
   have hb:=iG (hR.obs id _ cU);obtain ⟨vs,hown,_⟩:=hR.obs id _ cU;have e:v=dR (loc id):=k;rw [hb] at e;rcases hown.2 with ⟨e1,_⟩|⟨g,cap,cur,e1,_⟩
   ·rw [e,e1];exact ⟨rfl,rfl⟩
   ·rw [e,e1];exact ⟨rfl,rfl⟩
  ·rename_i k' e' ks vs cU
   obtain ⟨b,bK,clock,hl,_⟩:=hR.obs id _ cU;have e:v=dR (loc id):=k;rw [e,hl];exact ⟨rfl,rfl⟩
  ·cases h
 |rp id sz i off=>obtain ⟨g,n,c,_,rfl⟩:=k;exact ⟨rfl,rfl⟩
 |sub id sz lo hi=>simp [kX] at h
 |two s b=>simp [kX] at h
 |cp cs=>obtain ⟨b,off,vs,rfl,_⟩:=k;exact ⟨rfl,rfl⟩
 |cl f caps=>obtain ⟨vs,rfl,_⟩:=k;exact ⟨rfl,rfl⟩
 |ag caps=>simp [kX] at h
theorem qP {loc:Nat→Value}:∀{caps:List ko} {vs:List Value},iB μ loc caps vs→eD μ loc (caps.map Hu) vs
 |[],vs,h=>h
 |c::cs,vs,⟨u,us,e,h1,h2⟩=>by
  refine ⟨u,us,e,?_,qP h2⟩;cases c with
  |v a=>exact h1
  |p id=>exact h1
  |r id=>exact h1
theorem Nq (hR:Rel N w0 μ0 L μ loc st a w) {t:TypeId} {len:Nat} {parts:Array (Nat×Operand)} {e:TypeId} {s:Nat} {xs:List (List AV)} (h:mo P t len parts.toList st=some (e,s,xs)):
  ∃vs:List Value,(Instr.buildSlice t len (parts.map fun p=>(p.1,a.eval p.2))).run P w= .ok (.slice (some ⟨w.heap.size,0,none⟩) len len) (w.alloc (.cells vs.toArray e))∧cG μ s xs vs∧xs.length=len∧len≤maxLen∧0<s:=by
 unfold mo at h;split at h
 ·rename_i e' s' hs
  obtain ⟨hu,inf,kj,hsz⟩:=eE hs;split at h
  ·rename_i z ps hz hps
   split at h
   ·rename_i hc
    obtain ⟨hlen,hpos,hzl,hnt⟩:=hc;cases hf:sH (fun i=>some (i *s',s')) (mz z len) ps with
    |none=>simp [hf] at h
    |some cs=>
     simp [hf] at h;obtain ⟨rfl,rfl,rfl⟩:=h;obtain ⟨i,v,hi,hv,Vr⟩:=jE (μ:=μ) hz;rw [kj] at hi;injection hi with hi;subst hi
     obtain ⟨h1,h2⟩:=uL hR hps;have PG:v.cells.size=s':=by have:=Vr.length;simpa [hzl] using this
     obtain ⟨ws,hw,hr⟩:=Bh (us:=parts.toList.map fun p=>(p.1,a.eval p.2)) hf (w8 Vr len) (by simpa [List.map_map,Function.comp_def] using h1) (by simpa [List.map_map,Function.comp_def] using h2) (fun p hp x e=>by
      have:=List.all_eq_true.1 hnt p hp
      rw [e] at this;cases this)
     have xS:cs.length=len *s':=by
      have key:∀(ps:List (Nat×AV)) (cells cs:List AV),sH (fun i=>some (i *s',s')) cells ps=some cs→cs.length=cells.length:=by
       intro ps
       induction ps with
       |nil=>intro cells cs h;simp [sH] at h;rw [h]
       |cons p ps ih=>
        intro cells cs h;obtain ⟨j,x⟩:=p;simp only [sH] at h;split at h
        ·rename_i de
         rw [ih _ _ h];simp only [List.length_append,List.length_take,List.length_drop];omega
        ·cases h
      rw [key _ _ _ hf,r9,hzl]
     refine ⟨ws,?_,se len hr xS,uA _ _ _,by simp only [maxLen];have:len *1≤len *s':=Nat.mul_le_mul_left _ hpos;omega,hpos⟩;have hmade:(List.replicate len v.cells.toList).flatten.toArray=madeCells v.cells (len *s'):=by
      rw [←q7 v.cells s' PG hpos len]
     rw [hmade] at hw;by_cases h0:len *s'=0
     ·have hle:¬(len *s'>16777216):=by omega
      have e0:madeCells v.cells (len *s')= #[]:=by rw [h0];simp [madeCells,Array.range_zero']
      rw [e0] at hw;simp [Instr.buildSlice,run_underlying hu,sizeOf,typeInfo,kj,hsz,h0,hw,newRow,Array.range_zero']
     ·have hle:¬(len *s'>16777216):=by omega
      simp only [madeCells] at hw;simp [Instr.buildSlice,run_underlying hu,sizeOf,typeInfo,kj,hsz,h0,zeroValue,hv,hw,newRow,hlen]
   ·cases h
  ·cases h
 ·cases h
theorem Fo {o:Oper} {t:TypeId} {len:Nat} {parts:Array (Nat×Operand)} {d e s:Nat} {xs:List (List AV)} (hR:Rel N w0 μ0 L μ loc st a w) (hd:d<N) (cK:o.dst=some d) (ho:o.op= .buildSlice t len parts)
  (h:mo P t len parts.toList st=some (e,s,xs)) (hK:ku N w0 μ0 L ((st.new d (.row e s xs)).set (some d) (.row d)) K):o.wp P a w K Q:=by
 obtain ⟨vs,hr,hrc,hxl,hml,hpos⟩:=Nq (P:=P) hR h;refine ez (v:= .slice (some ⟨w.heap.size,0,none⟩) len len) (w':=w.alloc (.cells vs.toArray e)) (by unfold execOp;rw [ho];simp [hr]) ?_;rw [cK];refine hK _ _ _ _ (hR.made hd (by simp [gi,bX,eq_comm]) ?_ (Jh rfl));refine ⟨vs,⟨by rw [dh hrc], .inr ⟨w.heap.size,len,vs.toArray,?_,Nat.zero_le _,heap_alloc_new w _,by omega,hml,?_,?_⟩⟩,hrc,fun g hg=> ?_⟩
 ·rw [cC,hxl]
 ·simp [dh hrc,hxl]
 ·rw [hxl,←hxl,←dh hrc];simp
 ·rw [cC] at hg
  simp [gi,bX] at hg;subst hg;exact ⟨.inl hR.grown,sV hR _ (Nat.le_refl _)⟩
theorem Kv {o:Oper} {t:TypeId} {len:Nat} {parts:Array (Nat×Operand)} {e s:Nat} {xs:List (List AV)} (hR:Rel N w0 μ0 L μ loc st a w) (hd:∀i,o.dst=some i→i<N) (ho:o.op= .buildSlice t len parts)
  (h:mo P t len parts.toList st=some (e,s,xs)) (hK:ku N w0 μ0 L (st.set o.dst (.pv (.cm s xs))) K):o.wp P a w K Q:=by
 obtain ⟨vs,hr,hrc,hxl,hml,hpos⟩:=Nq (P:=P) hR h;refine ez (v:= .slice (some ⟨w.heap.size,0,none⟩) len len) (w':=w.alloc (.cells vs.toArray e)) (by unfold execOp;rw [ho];simp [hr]) ?_
 let μ':Mu:=fun b j=>if b=w.heap.size then vs[j]? else μ b j
 have hnone:=sV hR;have hle:μ.le μ':=fun b j v hv=>by
  by_cases hb:b=w.heap.size
  ·subst hb;rw [hnone _ (Nat.le_refl _) j] at hv;cases hv
  ·simpa [μ',hb] using hv
 have h1:=hR.grow (w':=w.alloc (.cells vs.toArray e)) (μ':=μ') ⟨hle,fun b j v hv=>by
   by_cases hb:b=w.heap.size
   ·exact .inr (by omega)
   ·exact .inl (by simpa [μ',hb] using hv)⟩ (fun b j v hv=>by
   by_cases hb:b=w.heap.size
   ·subst hb
    have KL:vs[j]? =some v:=by simpa [μ'] using hv
    exact mB (by simp [KL]) (kF hrc v (List.mem_of_getElem? KL))
   ·have KL:μ b j=some v:=by simpa [μ',hb] using hv
    exact hR.I1 (mc w _) b j v KL) (mc w _)
 refine hK _ _ _ _ (h1.set hd ?_);show rep μ' (.cm s xs) _;rw [rep];refine ⟨_,len,by rw [hxl],by omega,hml, .inr ⟨w.heap.size,0,rfl,sd hrc hle fun j u hu=> ?_⟩⟩;simpa [μ'] using hu
theorem Qw {o:Oper} {t:TypeId} {l c:Operand} {d e s:Nat} {kl kc:IntKind} {nl nc:Int} {z:List AV} {i:TypeInfo} (hR:Rel N w0 μ0 L μ loc st a w) (hd:d<N) (cK:o.dst=some d) (ho:o.op= .makeSlice t l c)
  (hs:isSlice P t=some (e,s)) (hl:(bw P 0 st l).bind eL =some (.int kl nl)) (hc:(bw P 0 st c).bind eL =some (.int kc nc)) (hz:zeroCells P e=some z) (hi:P.info? e=some i)
  (de:0<s∧z.length=s∧0≤nl∧nl≤nc∧i.bytes *nc.toNat≤281474976710656∧nc≤9223372036854775807)
  (hK:ku N w0 μ0 L ((st.new d (.row e s (List.replicate nl.toNat z))).set (some d) (.row d)) K):o.wp P a w K Q:=by
 obtain ⟨hpos,hzl,h0,hlc,hby,h63⟩:=de;obtain ⟨hu,inf,kj,hsz⟩:=eE hs;rw [kj] at hi;injection hi with hi;subst hi
 obtain ⟨i',v,hi',hv,Vr⟩:=jE (μ:=μ) hz;rw [kj] at hi';injection hi' with hi';subst hi'
 have PG:v.cells.size=s:=by have:=Vr.length;simpa [hzl] using this
 have hlv:=cV hR hl;have TQ:=cV hR hc;rw [rep] at hlv TQ;have hby':(inf.bytes:Int) *nc≤281474976710656:=by
  have e1:((inf.bytes *nc.toNat:Nat):Int)≤281474976710656:=by omega
  rw [Int.natCast_mul,Int.toNat_of_nonneg (by omega)] at e1;exact e1
 have hr:=run_make (P:=P) w t e inf v hu kj hv kl kc nl nc h0 hlc hby' h63;refine ez (v:= .slice (some ⟨w.heap.size,0,none⟩) nl.toNat nc.toNat) (w':=w.alloc (.cells (madeCells v.cells (nc.toNat *inf.size)) e)) (by unfold execOp;rw [ho];simp [hlv,TQ,hr]) ?_;rw [cK];refine hK _ _ _ _ (hR.made hd (by simp [gi,bX,eq_comm]) ?_ (Jh rfl));have hrc:=jW (sz:=s) Vr (by simpa using PG) nl.toNat;refine ⟨_,⟨dh hrc, .inr ⟨w.heap.size,nc.toNat,_,?_,Nat.zero_le _,heap_alloc_new w _,?_,?_,?_,?_⟩⟩,hrc,fun g hg=> ?_⟩
 ·rw [cC];simp
 ·simp;omega
 ·simp only [maxLen];omega
 ·rw [size_madeCells,hsz]
 ·rw [hsz,q7 v.cells s PG hpos]
  have:=GY v.cells.toList (l:=nl.toNat) (c:=nc.toNat) (by omega);simp only [Array.length_toList,PG] at this;simp only [List.length_replicate];exact this
 ·rw [cC] at hg
  simp [gi,bX] at hg;subst hg;exact ⟨.inl hR.grown,sV hR _ (Nat.le_refl _)⟩
theorem Ui {o:Oper} {d e s:Nat} (hR:Rel N w0 μ0 L μ loc st a w) (hd:d<N) (cK:o.dst=some d) (ho:o.op= .assign (.const (.slice none 0 0)))
  (hK:ku N w0 μ0 L ((st.new d (.row e s [])).set (some d) (.row d)) K):o.wp P a w K Q:=by
 refine ez (v:= .slice none 0 0) (w':=w) (by unfold execOp;rw [ho];rfl) ?_;rw [cK];refine hK _ _ _ _ ((hR.new (id:=d) (val:= .slice none 0 0) (o:= .row e s []) (.inl (Nat.lt_of_lt_of_le hd hR.small)) ?_ (fun j oj hj hne g hg=>by simp [gi,bX] at hg)).set (fun i hi=>by injection hi with hi;omega) (Jh rfl));refine ⟨[],⟨by simp, .inl ⟨cC _ _ _,rfl⟩⟩,rfl,fun g hg=> ?_⟩;rw [cC] at hg;simp [gi,bX] at hg
theorem uN {sz:Nat} {xs:List (List AV)} {vs:List Value} (h:cG μ sz xs vs) (n:Nat):cG μ sz (xs.take n) (vs.take (n *sz)):=by
 induction n generalizing xs vs with
 |zero=>simp [cG]
 |succ n ih=>
  cases xs with
  |nil=>simp only [cG] at h;subst h;simp [cG]
  |cons x xs=>
   obtain ⟨us,ws,rfl,h1,h2,h3⟩:=h;refine ⟨us,ws.take (n *sz),?_,h1,h2,ih h3⟩;rw [show (n+1) *sz=us.length+n *sz from by rw [Nat.add_mul,h2];omega,List.take_length_add_append]
theorem Dy {sz:Nat} {xs:List (List AV)} {vs:List Value} (h:cG μ sz xs vs) (n:Nat):cG μ sz (xs.drop n) (vs.drop (n *sz)):=by
 induction n generalizing xs vs with
 |zero=>simpa using h
 |succ n ih=>
  cases xs with
  |nil=>simp only [cG] at h;subst h;simp [cG]
  |cons x xs=>
   obtain ⟨us,ws,rfl,h1,h2,h3⟩:=h;rw [show (n+1) *sz=us.length+n *sz from by rw [Nat.add_mul,h2];omega,List.drop_length_add_append];exact ih h3
theorem B8 {t e ty:TypeId} {inf:TypeInfo} {v:Value} (hu:P.underlying t=some (.slice e)) (kj:P.info? e=some inf) (hv:inf.zero=some v) {ad:Addr} {n c:Nat} (hn:0<n) {w':World} (hsc:(storeCells ad (Builtin.zeroCells v.cells n).toList).run P w= .ok () w'):
  (Builtin.clear_ #[t] ty #[.slice (some ad) n c]).run P w= .ok (.tuple #[]) w':=by
 obtain ⟨k,rfl⟩:∃k,n=k+1:=⟨n-1,by omega⟩
 simp [Builtin.clear_,run_underlying hu,zeroValue,typeInfo,kj,hv,hsc]
theorem Oq {o:Oper} {c:Call} {t e e':TypeId} {s id sz sz' lo hi:Nat} {x:Operand} {xs:List (List AV)} {z:List AV} (hR:Rel N w0 μ0 L μ loc st a w) (cK:o.dst=none) (ho:o.op= .call c) (hc:c.callee= .builtin .clear) (ha:c.args.toList=[x]) (ht:c.argTypes.toList=[t])
  (hs:isSlice P t=some (e,s)) (hx:bw P t st x=some (.sub id sz lo hi)) (cU:st.ob id=some (.row e' sz' xs)) (hz:zeroCells P e=some z) (de:s=sz∧sz=sz'∧z.length=sz∧hi≤xs.length∧e=e'∧0<sz)
  (hK:ku N w0 μ0 L { st with ob:=put st.ob id (some (.row e' sz' (xs.take lo++List.replicate (hi-lo) z++xs.drop hi))) } K):o.wp P a w K Q:=by
 obtain ⟨rfl,rfl,hzl,hhi,rfl,hpos⟩:=de;obtain ⟨callee,⟨args⟩,⟨argTypes⟩⟩:=c;simp only at hc ha ht;subst hc;subst ha;subst ht;obtain ⟨hu,inf,kj,hsz⟩:=eE hs;obtain ⟨A,n,cp,A',c',mG,hlo,hhn,hcc,qW,_,hg⟩:=bf hR hx;obtain ⟨vs,hown,hrc,hm⟩:=hR.obs id _ cU;by_cases hlt:lo<hi
 ·obtain ⟨g,rfl,rfl⟩:=hg hlt
  obtain ⟨cap,cur,hloc',hheap,hnc,hcm,hcs,qn⟩:∃cap cur,loc id= .slice (some ⟨g,0,none⟩) xs.length cap∧w.heap[g]? =some (.cells cur e (0,0))∧xs.length≤cap∧cap≤maxLen∧cur.size=cap *s∧cur.toList.take (xs.length *s)=vs:=by
   rcases hown.2 with ⟨_,e2⟩|⟨g',cap,cur,e1,_,h2,h3,h4,h5,h6⟩
   ·omega
   ·rw [mG] at e1
    simp only [Value.slice.injEq,Option.some.injEq,Addr.mk.injEq,and_true] at e1;obtain ⟨rfl,rfl,rfl⟩:=e1;exact ⟨cp,cur,mG,h2,h3,h4,h5,h6⟩
  obtain ⟨i',v,hi',hv,Vr⟩:=jE (μ:=μ) hz;rw [kj] at hi';injection hi' with hi';subst hi'
  have PG:v.cells.size=s:=by have:=Vr.length;simpa [hzl] using this
  have hzs:(Builtin.zeroCells v.cells (hi-lo)).toList=(List.replicate (hi-lo) v.cells.toList).flatten:=by
   rw [←q7 v.cells s PG hpos (hi-lo)];simp [Builtin.zeroCells,madeCells,PG]
  have Rv:=jW (sz:=s) Vr (by simpa using PG) (hi-lo);have yb:((List.replicate (hi-lo) v.cells.toList).flatten).length=(hi-lo) *s:=by have:=dh Rv;simpa using this
  have hvl:=dh hrc;have xS:xs.length *s≤cur.size:=by rw [hcs];exact Nat.mul_le_mul_right _ hnc
  have hmul:lo *s+(hi-lo) *s=hi *s:=by rw [←Nat.add_mul];congr 1;omega
  have hhis:hi *s≤xs.length *s:=Nat.mul_le_mul_right _ hhi;have hsc:=run_storeCells_at P g (lo *s) e (List.replicate (hi-lo) v.cells.toList).flatten 0 cur w hheap (by rw [yb];omega) (kF Rv);simp only [Nat.add_zero,yb] at hsc;have Il:=mI (mI (uN hrc lo) Rv) (Dy hrc hi);have XH:(xs.take lo++List.replicate (hi-lo) z++xs.drop hi).length=xs.length:=by simp;omega
  have hrun:=B8 (P:=P) (ty:=o.type) (c:=c') (n:=hi-lo) hu kj hv (by omega) (by rw [hzs];exact hsc)
  refine ez (v:= .tuple #[]) (w':=w.setRow g (cur.toList.take (lo *s)++(List.replicate (hi-lo) v.cells.toList).flatten++cur.toList.drop (lo *s+(hi-lo) *s)).toArray) (by
   unfold execOp;rw [ho];simp only [resolve,invoke,builtin,Sem.run_bind,Sem.run_pure,Result.andThen_ok,qW,List.map_toArray,List.map_cons,List.map_nil]
   simp only [hrun,Result.andThen_ok]) ?_
  rw [cK];refine hK _ _ _ _ (hR.write cU (g:=g) (by rw [mG];exact fM.2 rfl) (fun k hk=>setRow_other w g k _ hk) rfl rfl rfl (by simp) ?_);refine ⟨_,⟨?_, .inr ⟨g,cap,_,?_,Nat.zero_le _,setRow_heap w g cur _ e _ hheap,?_,hcm,?_,?_⟩⟩,Il,fun g' hg'=>hm g' hg'⟩
  ·rw [dh Il]
  ·rw [XH];exact hloc'
  ·rw [XH];exact hnc
  ·simp only [List.size_toArray,List.length_append,List.length_take,List.length_drop,Array.length_toList,yb];omega
  ·rw [XH,←qn]
   have hb:hi *s≤cur.toList.length:=by simp;omega
   have ha:lo *s≤hi *s:=Nat.mul_le_mul_right _ (by omega);rw [hmul,List.take_take,Nat.min_eq_left (by omega),List.drop_take];have hl1:(cur.toList.take (lo *s)++(List.replicate (hi-lo) v.cells.toList).flatten).length=hi *s:=by rw [List.length_append,List.length_take,yb];omega
   generalize hq:cur.toList.take (lo *s)++(List.replicate (hi-lo) v.cells.toList).flatten=q at hl1;show List.take (xs.length *s) (q++List.drop (hi *s) cur.toList)=q++_;rw [List.take_append,List.take_of_length_le (by omega),hl1]
 ·have h0:hi-lo=0:=by omega
  have e0:xs.take lo++List.replicate (hi-lo) z++xs.drop hi=xs:=by
   rw [h0,show lo=hi from by omega];simp
  rw [e0] at hK
  refine ez (v:= .tuple #[]) (w':=w) (by
   unfold execOp;rw [ho];simp [resolve,invoke,builtin,qW,h0,Builtin.clear_,run_underlying hu]
   cases A'<;>simp) ?_
  rw [cK];refine hK _ _ μ loc ?_;have:put st.ob id (some (.row e s xs))=st.ob:=by
   funext i
   by_cases e:id=i
   ·subst e;rw [bT,cU]
   ·rw [aX _ _ e]
  rw [this];exact hR
theorem Ox {o:Oper} {t:TypeId} {x y:Operand} {sa sv:SV} (hR:Rel N w0 μ0 L μ loc st a w) (cK:o.dst=none) (ho:o.op= .store t x y)
  (hx:bw P 0 st x=some sa) (hy:bw P t st y=some sv) (h:storeAt P t st sa sv=some st') (hK:ku N w0 μ0 L st' K):o.wp P a w K Q:=by
 have YT:=bf hR hx;have Dj:=bf hR hy;have fin:∀(ad:Addr) (w':World),a.eval x= .pointer (some ad)→(storeVar t ad (a.eval y)).run P w= .ok () w'→Rel N w0 μ0 L μ loc st' a w'→o.wp P a w K Q:=fun ad w' e hr sL=>by
  unfold Oper.wp execOp;rw [ho];simp only [Instr.storeAt,e,Instr.sureAddr,Sem.run_bind,Sem.run_pure,Result.andThen_ok,hr,Oper.upon,cK,Act.put];exact hK _ _ _ _ sL
 unfold storeAt at h;split at h
 ·rename_i id off
  obtain ⟨b,hl,YT⟩:=YT;split at h
  ·rename_i bt cells n cU hsz
   obtain ⟨b',vs,hl',hnF,hheap,qk,hss,h1⟩:=hR.obs id _ cU;rw [hl] at hl';simp only [Value.pointer.injEq,Option.some.injEq,Addr.mk.injEq,and_true] at hl';subst hl';have hlen:=ja hss;have Xb:∀(us:List Value) (sus:List SV),(a.eval y).cells.toList=us→us.length=n→off+n≤vs.length→(∀u∈us,u.oneCell'=true)→eD μ loc sus us→
     st'={ st with ob:=put st.ob id (some (.box bt (cells.take off++sus++cells.drop (off+n)))) }→o.wp P a w K Q:=by
    intro us sus yc yb hle hone hsus hst;have hsc:=run_storeCells_at P b off bt us 0 vs.toArray w hheap (by simp;omega) hone;simp only [Nat.add_zero] at hsc
    refine fin ⟨b,off,none⟩ _ YT (by
     have:(a.eval y).cells.size=n:=by rw [←yb,←yc];simp
     simp only [storeVar,Sem.run_bind,j9 hsz,Result.andThen_ok,this,ne_eq,not_true_eq_false,if_false,Sem.run_pure,yc]
     exact hsc) ?_
    rw [hst];refine hR.write cU (g:=b) (by rw [hl];exact jH.2 rfl) (fun k hk=>setRow_other w b k _ hk) rfl rfl rfl (by simp) ?_;refine ⟨b,vs.take off++us++vs.drop (off+n),hl,hnF,?_,qk,?_,?_⟩
    ·have:=setRow_heap w b vs.toArray (vs.toArray.toList.take off++us++vs.toArray.toList.drop (off+us.length)).toArray bt (0,0) hheap
     simpa [yb] using this
    ·exact iZ (iZ (vp hss off) hsus) (vo hss (off+n))
    ·intro u hu
     simp only [List.mem_append] at hu;rcases hu with (hu|hu)|hu
     ·exact h1 u (List.mem_of_mem_take hu)
     ·exact hone u hu
     ·exact h1 u (List.mem_of_mem_drop hu)
   split at h
   ·rename_i cs
    split at h
    ·rename_i de
     injection h with h
     obtain ⟨us,e,hall,hone⟩:=Dj;have hs:=qP hall;exact Xb us (cs.map Hu) (by rw [e];rfl) (by rw [ja hs,List.length_map];exact de.1) (by omega) hone hs h.symm
    ·cases h
   ·rename_i cs
    split at h
    ·rename_i de
     injection h with h
     have ON:=Dj;simp only [cW,rep] at ON;obtain ⟨us,e,hall,hone⟩:=ON;exact Xb us (cs.map .pv) (by rw [e];rfl) (by rw [lS hall];exact de.1) (by omega) hone (mA hall) h.symm
    ·cases h
   ·split at h
    ·rename_i de
     injection h with h
     obtain ⟨ho1,hc1⟩:=LS hR de.2.2 Dj;refine Xb [a.eval y] [sv] (by rw [hc1]) (by simp [de.1]) (by omega) (by simpa using ho1) ⟨_,[],rfl,Dj,rfl⟩ ?_;rw [←h,de.1,List.set_eq_take_append_cons_drop,if_pos de.2.1];simp
    ·cases h
  ·cases h
 ·rename_i id sz i off
  obtain ⟨g,n',cp,hl,YT⟩:=YT;split at h
  ·rename_i e sz' xs n v cU hsz
   split at h
   ·rename_i c hg
    split at h
    ·rename_i de
     obtain ⟨rfl,hvl,hle,hnt⟩:=de;injection h with h
     obtain ⟨vs,hown,hrc,hm⟩:=hR.obs id _ cU;have hil:i<xs.length:=(List.getElem?_eq_some_iff.1 hg).1;obtain ⟨cap,cur,mG,hheap,hnc,hcm,hcs,qn⟩:∃cap cur,loc id= .slice (some ⟨g,0,none⟩) xs.length cap∧w.heap[g]? =some (.cells cur e (0,0))∧xs.length≤cap∧cap≤maxLen∧cur.size=cap *sz∧cur.toList.take (xs.length *sz)=vs:=by
      rcases hown.2 with ⟨_,e2⟩|⟨g',cap,cur,e1,_,h2,h3,h4,h5,h6⟩
      ·omega
      ·rw [hl] at e1
       simp only [Value.slice.injEq,Option.some.injEq,Addr.mk.injEq,and_true] at e1;obtain ⟨rfl,rfl,rfl⟩:=e1;exact ⟨cp,cur,hl,h2,h3,h4,h5,h6⟩
     have hyc:gB μ v.cells (a.eval y).cells.toList:=ED (show rep μ v (a.eval y) from Dj) (fun z e=>by rw [e] at hnt;cases hnt);have yb:(a.eval y).cells.toList.length=n:=by rw [hyc.length];exact hvl
     have key:∀(xs:List (List AV)) (vs:List Value) (i:Nat) (c:List AV),cG μ sz xs vs→xs[i]? =some c→off+n≤c.length→
       cG μ sz (xs.set i (c.take off++v.cells++c.drop (off+n))) (vs.take (i *sz+off)++(a.eval y).cells.toList++vs.drop (i *sz+off+n))∧i *sz+off+n≤vs.length:=by
      intro xs
      induction xs with
      |nil=>intro vs i c _ h;simp at h
      |cons x xs ih=>
       intro vs i c hrc hx hle;obtain ⟨us,ws,rfl,k1,k2,k3⟩:=hrc;cases i with
       |zero=>
        simp at hx;subst hx;have hxl:=k1.length;refine ⟨?_,by simp;omega⟩;refine ⟨us.take off++(a.eval y).cells.toList++us.drop (off+n),ws,?_,((k1.take off).append hyc).append (k1.drop (off+n)),?_,k3⟩
        ·simp only [Nat.zero_mul,Nat.zero_add]
         rw [List.take_append_of_le_length (by omega),List.drop_append_of_le_length (by omega)];simp [List.append_assoc]
        ·simp only [List.length_append,List.length_take,List.length_drop,yb];omega
       |succ i=>
        simp at hx;obtain ⟨r1,r2⟩:=ih ws i c k3 hx hle;refine ⟨?_,by simp [Nat.add_mul,k2];omega⟩;refine ⟨us,ws.take (i *sz+off)++(a.eval y).cells.toList++ws.drop (i *sz+off+n),?_,k1,k2,r1⟩
        rw [show (i+1) *sz+off=us.length+(i *sz+off) from by rw [Nat.add_mul,k2];omega,List.take_length_add_append,
         show us.length+(i *sz+off)+n=us.length+(i *sz+off+n) from by omega,List.drop_length_add_append]
        simp [List.append_assoc]
     obtain ⟨Il,hle'⟩:=key xs vs i c hrc hg hle;have hvl':=dh hrc;have xS:xs.length *sz≤cur.size:=by rw [hcs];exact Nat.mul_le_mul_right _ hnc
     have hsc:=run_storeCells_at P g (i *sz+off) e (a.eval y).cells.toList 0 cur w hheap (by rw [yb];omega) hyc.2;simp only [Nat.add_zero,yb] at hsc
     refine fin ⟨g,i *sz+off,none⟩ _ YT (by
      have:(a.eval y).cells.size=n:=by simpa using yb
      simp only [storeVar,Sem.run_bind,j9 hsz,Result.andThen_ok,this,ne_eq,not_true_eq_false,if_false,Sem.run_pure]
      exact hsc) ?_
     rw [←h];refine hR.write cU (g:=g) (by rw [hl];exact fM.2 rfl) (fun k hk=>setRow_other w g k _ hk) rfl rfl rfl (by simp) ?_;refine ⟨_,⟨?_, .inr ⟨g,cap,_,?_,Nat.zero_le _,setRow_heap w g cur _ e _ hheap,?_,hcm,?_,?_⟩⟩,Il,fun g' hg'=>hm g' hg'⟩
     ·rw [dh Il]
     ·simpa using mG
     ·simpa using hnc
     ·simp only [List.size_toArray,List.length_append,List.length_take,List.length_drop,Array.length_toList,yb];omega
     ·simp only [List.length_set]
      have hvl2:vs.length≤cur.toList.length:=by simp;omega
      rw [show vs.take (i *sz+off)=cur.toList.take (i *sz+off) from by rw [←qn,List.take_take,Nat.min_eq_left (by omega)],
       show vs.drop (i *sz+off+n)=(cur.toList.drop (i *sz+off+n)).take (xs.length *sz-(i *sz+off+n)) from by rw [←qn,List.drop_take]]
      rw [List.take_append,List.take_of_length_le (by simp [yb];omega)]
      congr 2
      simp only [List.length_append,List.length_take,Array.length_toList,yb];omega
    ·cases h
   ·cases h
  ·cases h
 ·cases h
theorem As (t ty e:TypeId) (i:TypeInfo) (ht:P.underlying t=some (.slice e)) (hi:P.info? e=some i) (v:Value) (n:Nat) (xs:List Value) (size:Nat) (hown:w.ownsRow 0 e size v n xs) (c:Nat):
  (Builtin.append_ #[t,t] ty #[v, .slice none 0 c]).run P w= .ok v w:=by
 rcases hown.2 with ⟨rfl,rfl⟩|⟨g,cap,cur,rfl,_,_,hnc,_⟩
 ·simp [Builtin.append_,run_underlying ht,sizeOf,typeInfo,hi,Builtin.lenOf,Builtin.firstCells]
 ·simp [Builtin.append_,run_underlying ht,sizeOf,typeInfo,hi,Builtin.lenOf,Builtin.firstCells,hnc,storeCells]
theorem Kl {o:Oper} {x y:Operand} {t e:TypeId} {d sz id:Nat} {sy:SV} {xs ys:List (List AV)} {i:TypeInfo} (hR:Rel N w0 μ0 L μ loc st a w) (hd:d<N) (cK:o.dst=some d)
  (ho:o.op= .call { callee:= .builtin .append,args:= #[x,y],argTypes:= #[t,t] }) (hs:isSlice P t=some (e,sz)) (hx:bw P t st x=some (.row id)) (hy:bw P t st y=some sy)
  (cU:st.ob id=some (.row e sz xs)) (hel:elems st sy=some (sz,ys)) (hi:P.info? e=some i) (hpos:0<sz) (hby:(xs.length+ys.length) *i.bytes≤140737488355328) (hlen:xs.length+ys.length≤4611686018427387904)
  (hz:i.zero.map (fun z=>z.cells.size)=some sz) (hid:id<10000∨20000≤id) (hK:ku N w0 μ0 L ((st.new id (.row e sz (xs++ys))).set (some d) (.row id)) K):o.wp P a w K Q:=by
 obtain ⟨hu,inf,kj,hsz⟩:=eE hs;rw [kj] at hi;injection hi with hi;subst hi
 obtain ⟨z,hz0,hzs⟩:∃z,inf.zero=some z∧z.cells.size=sz:=by
  cases hzz:inf.zero with
  |none=>simp [hzz] at hz
  |some z=>simp [hzz] at hz;exact ⟨z,rfl,hz⟩
 have qW:a.eval x=loc id:=(bf hR hx:a.eval x=dR (loc id)).trans (iG (hR.obs id _ cU));have Dj:=bf hR hy;obtain ⟨vs,hown,hrc,hm⟩:=hR.obs id _ cU;obtain ⟨A,c,ON,us,yc,hsrc⟩:=sE hR hel Dj;have yb:=dh yc;obtain ⟨v',w',hrun,Vy,hgrow,hblk⟩:∃v' w',(Builtin.append_ #[t,t] o.type #[loc id, .slice A ys.length c]).run P w= .ok v' w'∧w'.ownsRow 0 e sz v' (xs.length+ys.length) (vs++us)∧w.grownBy w' (loc id).ownBlock∧
   (v'.ownBlock=(loc id).ownBlock∨v'.ownBlock=some w.heap.size):=by
  cases A with
  |none=>
   have h0:ys.length=0:=by
    rcases hsrc with h0|⟨ad,h,_⟩
    ·exact h0
    ·cases h
   have Io:us=[]:=List.eq_nil_of_length_eq_zero (by rw [yb,h0];simp);subst Io;rw [h0];exact ⟨loc id,w,As t o.type e inf hu kj (loc id) _ vs sz hown c,by simpa using hown,⟨rfl,rfl,rfl,Nat.le_refl _,fun _ _ _=>rfl⟩, .inl rfl⟩
  |some ad=>
   have hcells:∀j u,us[j]? =some u→w.cell? (ad.add j)=some u:=by
    rcases hsrc with h0|⟨ad',h,hc⟩
    ·have Io:us=[]:=List.eq_nil_of_length_eq_zero (by rw [yb,h0];simp)
     subst Io;intro j u hu;simp at hu
    ·injection h with h;subst h;exact hc
   obtain ⟨v',w',h1,h2,h3,_,h5⟩:=run_append_own_at (P:=P) w 0 t o.type e inf z sz inf.bytes hu kj hz0 hsz rfl hzs hpos (loc id) xs.length vs hown ad ys.length c us yb hcells (kF yc) (by simp only [maxLen];omega) hby (Nat.zero_le _);exact ⟨v',w',h1,h2,h3,h5⟩
 have hbo:∀v:Value,(∃A n c,v= .slice A n c)→v.ownBlock=bX v:=by
  rintro v ⟨A,n,c,rfl⟩;cases A<;>rfl
 have mG:∃A n c,loc id= .slice A n c:=by
  rcases hown.2 with ⟨e1,_⟩|⟨g,cap,cur,e1,_⟩
  ·exact ⟨_,_,_,e1⟩
  ·exact ⟨_,_,_,e1⟩
 have KL:∃A n c,v'= .slice A n c:=by
  rcases Vy.2 with ⟨e1,_⟩|⟨g,cap,cur,e1,_⟩
  ·exact ⟨_,_,_,e1⟩
  ·exact ⟨_,_,_,e1⟩
 rw [hbo _ mG] at hgrow hblk;rw [hbo _ KL] at hblk;have hok:=hR.obs id _ cU;refine ez (v:=v') (w':=w') (by unfold execOp;rw [ho];simp [resolve,invoke,builtin,qW,ON,hrun]) ?_;rw [cK]
 have h1:=(hR.drop id).world (w':=w') (Mu.le.refl _) (fun _ _ _ h=> .inl h) (fun b j v h=>by
   have hc:=hR.r7 b j v h;have hlt:=tu hc;have hne:some b≠bX (loc id):=fun e=>by have:=(hok.block b (.inl e.symm)).2.2 j;rw [this] at h;cases h
   rw [fT (hgrow.block b hlt hne)];exact hc) (fun k ok hk b hb=>by
   by_cases e':id=k
   ·subst e';simp [bT] at hk
   ·simp only [aX _ _ e'] at hk
    obtain ⟨_,hlt,qk⟩:=(hR.obs k ok hk).block b hb;have hne:some b≠bX (loc id):=fun e=>hR.apart id k _ ok cU hk e' b (.inl e.symm) hb
    exact ⟨hgrow.block b hlt hne,qk⟩) (fun b hb hl=>by
   refine hgrow.block b (Nat.lt_of_lt_of_le hb hR.grown) (fun e=> ?_);rcases (hok.block b (.inl e.symm)).1 with h|⟨v,hv,h⟩
   ·omega
   ·exact hl ⟨id,v,hv,h⟩) hgrow.os hgrow.tape hgrow.output hgrow.size (fun _=>Pj hrun)
 have h2:=h1.new (id:=id) (val:=v') (o:= .row e sz (xs++ys)) hid (by
   refine ⟨vs++us,?_,mI hrc yc,fun g hg=> ?_⟩
   ·rw [cC,List.length_append];exact Vy
   ·rw [cC] at hg
    replace hg:bX v'=some g:=by obtain ⟨A',n',c',rfl⟩:=KL;exact fM.1 hg
    rcases hblk with hb|hb
    ·rw [hg] at hb
     have:=hok.block g (.inl hb.symm);exact ⟨this.1,this.2.2⟩
    ·rw [hg] at hb
     injection hb with hb
     subst hb
     exact ⟨.inl hR.grown,sV hR _ (Nat.le_refl _)⟩) (fun j oj hj hne g hg=>by
   have hj':st.ob j=some oj:=by
    by_cases e':id=j
    ·exact absurd e'.symm hne
    ·simpa only [aX _ _ e'] using hj
   replace hg:bX v'=some g:=by obtain ⟨A',n',c',rfl⟩:=KL;exact fM.1 hg
   rcases hblk with hb|hb
   ·rw [hg] at hb
    exact hR.apart id j _ oj cU hj' (fun e=>hne e.symm) g (.inl hb.symm)
   ·rw [hg] at hb
    injection hb with hb
    subst hb;intro hbj;have:=((hR.obs j oj hj').block _ hbj).2.1
    omega)
 have heq:St.new { st with ob:=put st.ob id none } id (.row e sz (xs++ys))=St.new st id (.row e sz (xs++ys)):=by
  simp only [St.new,St.bV]
  congr 1
  funext k
  by_cases e':id=k
  ·subst e';simp [bT]
  ·simp only [aX _ _ e']
 rw [heq] at h2;exact hK _ _ _ _ (h2.set (fun i hi=>by injection hi with hi;omega) (Jh (by obtain ⟨A',n',c',rfl⟩:=KL;rfl)))
theorem zL {t k e:TypeId} {r:Option Operand} (hR:Rel N w0 μ0 L μ loc st a w) (ht:P.underlying t=some (.map k e)) (hr:nw P st r=true):(Instr.makeMap t (r.map a.eval)).run P w= .ok (.map (some w.heap.size)) (w.alloc (.map #[] 0)):=by
 have hrun:(Instr.makeMap t (r.map a.eval)).run P w= .ok (.map (some w.heap.size)) (w.alloc (.map #[] 0)):=by
  cases r with
  |none=>rfl
  |some x=>
   simp only [nw] at hr;cases hx:(bw P 0 st x).bind eL with
   |none=>simp [hx] at hr
   |some y=>
    cases y with
    |int q n=>
     have:=cV hR hx;rw [rep] at this;have e:(Instr.makeMap t (some (.int q n))).run P w=(Instr.makeMap t none).run P w:=by simp [Instr.makeMap,run_underlying ht,asInt,asIntOf]
     simp only [Option.map_some,this];rw [e];rfl
    |_=>simp [hx] at hr
 exact hrun
theorem HB {o:Oper} {t k e:TypeId} {r:Option Operand} {d:Nat} (hR:Rel N w0 μ0 L μ loc st a w) (hd:d<N) (cK:o.dst=some d) (ho:o.op= .makeMap t r) (ht:P.underlying t=some (.map k e))
  (hr:nw P st r=true) (hK:ku N w0 μ0 L ((st.new d (.mp k e [] [])).set (some d) (.row d)) K):o.wp P a w K Q:=by
 have hrun:=zL (P:=P) hR ht hr;refine ez (v:= .map (some w.heap.size)) (w':=w.alloc (.map #[] 0)) (by unfold execOp;rw [ho];simp [hrun]) ?_;rw [cK];refine hK _ _ _ _ (hR.made hd (val:= .map (some w.heap.size)) (fun g hg=>mU.1 hg) ?_ ?_)
 ·refine ⟨w.heap.size, #[],0,cC _ _ _, .inl hR.grown,(by show (w.heap.push _)[w.heap.size]? =_;simp),sV hR _ (Nat.le_refl _),by simp [bF],by simp [bF],⟨by simp,by simp⟩⟩
 ·exact Jh rfl
theorem K2 {key x:AV} {kv xv:Value} (h:nQ key x=some true) (hk:rep μ key kv) (hx:rep μ x xv):kv=xv∧key=x:=by
 unfold nQ at h;split at h
 ·rename_i s t
  simp only [Option.some.injEq,beq_iff_eq] at h;subst h;rw [rep] at hk hx;exact ⟨hk.trans hx.symm,rfl⟩
 ·rename_i q s q' t
  split at h
  ·rename_i e;subst e
   simp only [Option.some.injEq,beq_iff_eq] at h;subst h;rw [rep] at hk hx;exact ⟨hk.trans hx.symm,rfl⟩
  ·cases h
 ·rename_i s t
  simp only [Option.some.injEq,beq_iff_eq] at h;subst h;rw [rep] at hk hx;exact ⟨hk.trans hx.symm,rfl⟩
 ·cases h
theorem wA {kv:Value} {key:AV} (hk:rep μ key kv) {kt:TypeId} (hok:fc P kt key=true) (w:World):(Instr.keyThatStays kv kv).run P w= .ok kv w:=by
 have hs:∀n,Instr.sameBits n kv kv=true:=by
  intro n;unfold fc at hok;split at hok
  ·rw [rep] at hk;subst hk;cases n<;>simp [Instr.sameBits,L6]
  ·rw [rep] at hk;subst hk;cases n<;>simp [Instr.sameBits]
  ·rw [rep] at hk;subst hk;cases n<;>simp [Instr.sameBits]
  ·cases hok
 simp only [Instr.keyThatStays,hs 10000];simp
theorem LY {xs:List AV} {vs:List Value} (h:bF μ xs vs) {i:Nat} {x:AV} {v:Value} (hx:rep μ x v):bF μ (xs.set i x) (vs.set i v):=by
 induction xs generalizing vs i with
 |nil=>rw [bF] at h;subst h;simp [bF]
 |cons y xs ih=>
  rw [bF] at h;obtain ⟨u,us,rfl,h1,h2⟩:=h;cases i with
  |zero=>simpa using bq hx h2
  |succ i=>simpa using bq h1 (ih h2)
theorem uG {t kt et:TypeId} {b:Nat} {bK:Array MapEntry} {clock:Nat} {key:AV} {kv x:Value} {ks:List AV} {r:Option Nat} (hu:P.underlying t=some (.map kt et)) (hh:w.heap[b]? =some (.map bK clock)) (hkr:rep μ key kv) (hok:fc P kt key=true)
  (h1:bF μ ks (bK.toList.map (·.key))) (hf:gG key ks=some r):
  ∃e7 clock',(Instr.mapUpdate t (.map (some b)) kv x).run P w= .ok () { w with heap:=w.heap.setIfInBounds b (.map e7 clock') }∧
   (r=none→bF μ (ks++[key]) (e7.toList.map (·.key))∧e7.toList.map (·.val)=bK.toList.map (·.val)++[x])∧
   (∀j,r=some j→bF μ ks (e7.toList.map (·.key))∧e7.toList.map (·.val)=(bK.toList.map (·.val)).set j x∧j<bK.size)∧(N4 bK clock→N4 e7 clock'):=by
 have C1:=iL hkr hok h1 hf w;cases r with
 |none=>
  refine ⟨bK.push { key:=kv,val:=x,born:=clock },clock+1,?_,fun _=>⟨?_,by simp⟩,(fun j e=>by cases e),fun hB=>⟨fun y hy=> ?_,?_⟩⟩
  ·simp only [] at C1
   simp [Instr.mapUpdate,run_underlying hu,er hh,eG hkr hok,C1,setObj,Sem.run,hh]
  ·simpa using jC h1 (bq hkr bZ)
  ·rw [Array.toList_push,List.mem_append] at hy
   rcases hy with hy|hy
   ·have:=hB.1 y hy;omega
   ·rw [List.mem_singleton] at hy;subst hy;exact Nat.lt_succ_self _
  ·rw [Array.toList_push,List.map_append,List.nodup_append]
   refine ⟨hB.2,by simp,fun a ha b hb=> ?_⟩;obtain ⟨y,hy,rfl⟩:=List.mem_map.1 ha;simp only [List.map_cons,List.map_nil,List.mem_singleton] at hb;subst hb;have:=hB.1 y hy;omega
 |some j=>
  obtain ⟨e,he,hrun,y,hy,hyk⟩:=C1;obtain ⟨yv,Dj,hyr⟩:=od h1 hy;have he':bK[j]? =some e:=by simpa using he
  have ON:yv=e.key:=by
   simp [he'] at Dj;exact Dj.symm
  subst ON;obtain ⟨hsame,_⟩:=K2 hyk hkr hyr;have wg:(bK.modify j fun e=>{ e with key:=kv,val:=x }).toList.map (·.born)=bK.toList.map (·.born):=by
   apply List.ext_getElem?;intro i;simp only [List.getElem?_map,Array.getElem?_toList,Array.getElem?_modify];by_cases e1:j=i
   ·subst e1;simp [he']
   ·simp [e1]
  refine ⟨bK.modify j fun e=>{ e with key:=kv,val:=x },clock,?_,(fun e=>by cases e),(fun j' ej=> ?_),fun hB=>⟨fun y hy=> ?_,by rw [wg];exact hB.2⟩⟩
  rotate_right
  ·have hm:y.born∈bK.toList.map (·.born):=by rw [←wg];exact List.mem_map.2 ⟨y,hy,rfl⟩
   obtain ⟨z,hz,e⟩:=List.mem_map.1 hm;rw [←e];exact hB.1 z hz
  ·simp [Instr.mapUpdate,run_underlying hu,er hh,eG hkr hok,hrun,he',←hsame,wA hkr hok,setObj,Sem.run,hh]
  ·injection ej with ej;subst ej
   refine ⟨?_,?_,(Array.getElem?_eq_some_iff.1 he').1⟩
   ·have:(bK.modify j fun e=>{ e with key:=kv,val:=x }).toList.map (·.key)=bK.toList.map (·.key):=by
     apply List.ext_getElem?;intro i;simp only [List.getElem?_map,Array.getElem?_toList,Array.getElem?_modify];by_cases e1:j=i
     ·subst e1;simp [he',hsame]
     ·simp [e1]
    rw [this];exact h1
   ·apply List.ext_getElem?
    intro i;simp only [List.getElem?_map,Array.getElem?_toList,Array.getElem?_modify,List.getElem?_set];by_cases e1:j=i
    ·subst e1;simp [he']
     exact (Array.getElem?_eq_some_iff.1 he').1
    ·simp [e1]
theorem vT {o:Oper} {t:TypeId} {m k x:Operand} (hR:Rel N w0 μ0 L μ loc st a w) (cK:o.dst=none) (ho:o.op= .mapUpdate t m k x∨o.op= .insert t m k x) (h:qt P st t m k x=some st')
  (hK:ku N w0 μ0 L st' K):o.wp P a w K Q:=by
 unfold qt at h;split at h
 ·rename_i kt et hu
  split at h
  ·rename_i st1 Rx
   obtain ⟨μ1,Fy⟩:∃μ1,Rel N w0 μ0 L μ1 loc st1 a w:=by
    unfold Lq at Rx;split at Rx
    ·injection Rx with e;subst e;exact ⟨μ,hR⟩
    ·obtain ⟨μ',_,h'⟩:=hR.cQ Rx;exact ⟨μ',h'⟩
    ·cases Rx
   split at h
   ·rename_i id key v hm hk hx
    split at h
    ·rename_i k' e' ks vs cU
     cases hc:(fc P kt key&&v.BM) with
     |false=>simp [hc] at h
     |true=>
      simp only [hc,cond_true] at h;simp only [Bool.and_eq_true] at hc;split at h
      ·rename_i ks' vs' hput
       injection h with h
       subst h;obtain ⟨b,bK,clock,hl,hown,hh,qk,h1,h2,hB⟩:=Fy.obs id _ cU;have mK:a.eval m= .map (some b):=by
        have:=bf Fy hm;simp only [cW] at this;rw [this,hl];rfl
       have hkr:=cV Fy hk;have hxr:=cV Fy hx;have XS:∃e7 clock',(Instr.mapUpdate t (a.eval m) (a.eval k) (a.eval x)).run P w= .ok () { w with heap:=w.heap.setIfInBounds b (.map e7 clock') }∧bF μ1 ks' (e7.toList.map (·.key))∧bF μ1 vs' (e7.toList.map (·.val))∧N4 e7 clock':=by
        unfold q9 at hput;cases hf:gG key ks with
        |none=>simp [hf] at hput
        |some r=>
         obtain ⟨e7,clock',hrun,q1,q2,q3⟩:=uG (x:=a.eval x) hu hh hkr hc.1 h1 hf;refine ⟨e7,clock',by rw [mK];exact hrun,?_⟩;cases r with
         |none=>
          simp only [hf,Option.some.injEq,Prod.mk.injEq] at hput;obtain ⟨rfl,rfl⟩:=hput;obtain ⟨k1,k2⟩:=q1 rfl;exact ⟨k1,by rw [k2];exact jC h2 (bq hxr bZ),q3 hB⟩
         |some j=>
          simp only [hf,Option.some.injEq,Prod.mk.injEq] at hput;obtain ⟨rfl,rfl⟩:=hput;obtain ⟨k1,k2,_⟩:=q2 j rfl;exact ⟨k1,by rw [k2];exact LY h2 hxr,q3 hB⟩
       obtain ⟨e7,clock',hrun,r1,r2,r3⟩:=XS;have hlt:=(Array.getElem?_eq_some_iff.1 hh).1
       have KM:=Fy.write cU (g:=b) (by rw [hl];exact mU.2 rfl) (w':={ w with heap:=w.heap.setIfInBounds b (.map e7 clock') }) (o':= .mp k' e' ks' vs') (fun b' hb'=>by
         simp only [];rw [Array.getElem?_setIfInBounds_ne (fun e=>hb' e.symm)]) rfl rfl rfl (by simp) ⟨b,e7,clock',hl,hown,by simp [hlt],qk,r1,r2,r3⟩
       have:((execOp a.eval o).run P w)= .ok .skip { w with heap:=w.heap.setIfInBounds b (.map e7 clock') }:=by
        unfold execOp;rcases ho with ho|ho<;>rw [ho]<;>simp [hrun]
       unfold Oper.wp;rw [this];simp only [Oper.upon,cK];exact hK _ _ _ _ KM
      ·cases h
    ·cases h
   ·cases h
  ·cases h
 ·cases h
theorem w6 {xs:List AV} {vs:List Value} (h:bF μ xs vs) (i:Nat):bF μ (xs.eraseIdx i) (vs.eraseIdx i):=by
 induction xs generalizing vs i with
 |nil=>rw [bF] at h;subst h;simp [bF]
 |cons x xs ih=>
  rw [bF] at h;obtain ⟨u,us,rfl,h1,h2⟩:=h;cases i with
  |zero=>simpa using h2
  |succ i=>simpa using bq h1 (ih h2 i)
theorem Ej {α β:Type} (f:α→β) (l:List α) (j:Nat):(l.eraseIdx j).map f=(l.map f).eraseIdx j:=by
 induction l generalizing j with
 |nil=>rfl
 |cons x l ih=>
  cases j with
  |zero=>rfl
  |succ j=>simp [ih]
theorem Km {o:Oper} {c:Call} {t:TypeId} {ts:List TypeId} {m k:Operand} (hR:Rel N w0 μ0 L μ loc st a w) (cK:o.dst=none) (ho:o.op= .call c) (hc:c.callee= .builtin .delete) (ha:c.args.toList=[m,k]) (ht:c.argTypes.toList=t::ts) (h:qs P st t m k=some st')
  (hK:ku N w0 μ0 L st' K):o.wp P a w K Q:=by
 obtain ⟨callee,⟨args⟩,⟨argTypes⟩⟩:=c;simp only at hc ha ht;subst hc;subst ha;subst ht;unfold qs at h;split at h
 ·rename_i kt et hu
  split at h
  ·rename_i id key hm hk
   split at h
   ·rename_i k' e' ks vs cU
    cases hok:fc P kt key with
    |false=>simp [hok] at h
    |true=>
     simp only [hok,cond_true] at h;split at h
     ·rename_i ks' vs' OG
      injection h with h
      subst h;obtain ⟨b,bK,clock,hl,hown,hh,qk,h1,h2,hB⟩:=hR.obs id _ cU;have mK:a.eval m= .map (some b):=by
       have:=bf hR hm;simp only [cW] at this;rw [this,hl];rfl
      have hkr:=cV hR hk;have XS:∃e7,(Builtin.delete_ (t::ts).toArray o.type #[a.eval m,a.eval k]).run P w= .ok (.tuple #[]) { w with heap:=w.heap.setIfInBounds b (.map e7 clock) }∧bF μ ks' (e7.toList.map (·.key))∧bF μ vs' (e7.toList.map (·.val))∧N4 e7 clock:=by
       unfold Yf at OG;cases hf:gG key ks with
       |none=>simp [hf] at OG
       |some r=>
        have C1:=iL hkr hok h1 hf w;cases r with
        |none=>
         simp only [hf,Option.some.injEq,Prod.mk.injEq] at OG;obtain ⟨rfl,rfl⟩:=OG;simp only [] at C1;exact ⟨bK,by simp [Builtin.delete_,mK,run_underlying hu,er hh,eG hkr hok,C1,setObj,Sem.run,hh],h1,h2,hB⟩
        |some j=>
         simp only [hf,Option.some.injEq,Prod.mk.injEq] at OG;obtain ⟨rfl,rfl⟩:=OG;obtain ⟨e,he,hrun,_⟩:=C1;refine ⟨bK.eraseIdxIfInBounds j,by simp [Builtin.delete_,mK,run_underlying hu,er hh,eG hkr hok,hrun,setObj,Sem.run,hh],?_,?_,⟨fun y hy=>hB.1 y (by rw [Array.toList_eraseIdxIfInBounds] at hy;exact (List.eraseIdx_sublist _ _).subset hy),by rw [Array.toList_eraseIdxIfInBounds];exact hB.2.sublist ((List.eraseIdx_sublist _ _).map _)⟩⟩
         ·have:=w6 h1 j
          rw [←Ej] at this;rw [Array.toList_eraseIdxIfInBounds];exact this
         ·have:=w6 h2 j
          rw [←Ej] at this;rw [Array.toList_eraseIdxIfInBounds];exact this
      obtain ⟨e7,hrun,r1,r2,r3⟩:=XS;have hlt:=(Array.getElem?_eq_some_iff.1 hh).1
      have KM:=hR.write cU (g:=b) (by rw [hl];exact mU.2 rfl) (w':={ w with heap:=w.heap.setIfInBounds b (.map e7 clock) }) (o':= .mp k' e' ks' vs') (fun b' hb'=>by
        simp only [];rw [Array.getElem?_setIfInBounds_ne (fun e=>hb' e.symm)]) rfl rfl rfl (by simp) ⟨b,e7,clock,hl,hown,by simp [hlt],qk,r1,r2,r3⟩
      refine ez (v:= .tuple #[]) (w':={ w with heap:=w.heap.setIfInBounds b (.map e7 clock) }) (by
       unfold execOp;rw [ho];simp only [List.map_toArray,List.map_cons,List.map_nil,resolve,invoke,builtin];have hrun':(Builtin.delete_ { toList:=t::ts } o.type #[a.eval m,a.eval k]).run P w=_:=hrun
       simp [hrun']) ?_
      rw [cK];exact hK _ _ _ _ KM
     ·cases h
   ·cases h
  ·cases h
 ·cases h
theorem rE {id:Nat} {val:Value} {us:Array Value} (um:loc id= .tuple us) (hbase:dR val=dR (loc id)):∀{cs:List ko} {vs:List Value},iB μ loc cs vs→iB μ (uR loc id val) cs vs
 |[],vs,h=>h
 |c::cs,vs,⟨u,us',e,h1,h2⟩=>by
  refine ⟨u,us',e,?_,rE um hbase h2⟩;cases c with
  |v a=>exact h1
  |p j=>
   obtain ⟨b,k1,k2⟩:=h1;have hne:j≠id:=fun e=>by subst e;rw [um] at k1;cases k1
   exact ⟨b,by rw [cr _ _ hne];exact k1,k2⟩
  |r j=>
   show u=dR (uR loc id val j);by_cases e:j=id
   ·subst e;rw [cC,hbase];exact h1
   ·rw [cr _ _ e];exact h1
theorem EB {id:Nat} {val:Value} {us:Array Value} (um:loc id= .tuple us) (hbase:dR val=dR (loc id)) {s:SV} {v:Value} (k:cW μ loc s v):cW μ (uR loc id val) s v:=by
 induction s generalizing v with
 |undef=>exact k
 |any=>exact k
 |pv y=>exact k
 |cp cs=>exact k
 |ptr j off=>
  obtain ⟨b,h1,h2⟩:=k;have hne:j≠id:=fun e=>by subst e;rw [um] at h1;cases h1
  exact ⟨b,by rw [cr _ _ hne];exact h1,h2⟩
 |row j=>
  show v=dR (uR loc id val j);by_cases e:j=id
  ·subst e;rw [cC,hbase];exact k
  ·rw [cr _ _ e];exact k
 |rp j sz i off=>
  obtain ⟨g,n,c,h1,h2⟩:=k;have hne:j≠id:=fun e=>by subst e;rw [um] at h1;cases h1
  exact ⟨g,n,c,by rw [cr _ _ hne];exact h1,h2⟩
 |sub j sz lo hi=>
  obtain ⟨A,n,c,A',c',h1,h2⟩:=k;have hne:j≠id:=fun e=>by subst e;rw [um] at h1;cases h1
  exact ⟨A,n,c,A',c',by rw [cr _ _ hne];exact h1,h2⟩
 |cl f caps=>obtain ⟨vs,e,hc⟩:=k;exact ⟨vs,e,rE um hbase hc⟩
 |ag caps=>obtain ⟨vs,e,hc,h1⟩:=k;exact ⟨vs,e,rE um hbase hc,h1⟩
 |two s b ih=>obtain ⟨y,e,k⟩:=k;exact ⟨y,e,ih k⟩
theorem B5 {id:Nat} {val:Value} {us:Array Value} (um:loc id= .tuple us) (hbase:dR val=dR (loc id)):∀{cs:List SV} {vs:List Value},eD μ loc cs vs→eD μ (uR loc id val) cs vs
 |[],vs,h=>h
 |c::cs,vs,⟨u,us',e,h1,h2⟩=>⟨u,us',e,EB um hbase h1,B5 um hbase h2⟩
theorem O4 {n0:Nat} {i id:Nat} {val:Value} {us:Array Value} (um:loc id= .tuple us) (hbase:dR val=dR (loc id)) {o:Ob} (h:gV n0 L μ loc w i o) (hne:i≠id):gV n0 L μ (uR loc id val) w i o:=by
 cases o with
 |box t cells=>
  obtain ⟨b,vs,hl,ho,hh,hm,hs,h1⟩:=h;exact ⟨b,vs,by rw [cr _ _ hne];exact hl,ho,hh,hm,B5 um hbase hs,h1⟩
 |row e sz xs=>
  obtain ⟨vs,hown,hrc,hm⟩:=h;refine ⟨vs,by rw [cr _ _ hne];exact hown,hrc,fun g hg=>hm g (by rw [cr _ _ hne] at hg;exact hg)⟩
 |mp k e ks es=>
  obtain ⟨b,bK,clock,hl,rest⟩:=h;exact ⟨b,bK,clock,by rw [cr _ _ hne];exact hl,rest⟩
 |mr k e sz ks vs=>
  obtain ⟨b,bK,clock,us,hl,rest⟩:=h;exact ⟨b,bK,clock,us,by rw [cr _ _ hne];exact hl,rest⟩
 |it s pos=>
  obtain ⟨b,hl,rest⟩:=h;exact ⟨b,by rw [cr _ _ hne];exact hl,rest⟩
theorem Rel.Ww (hR:Rel N w0 μ0 L μ loc st a w) {id:Nat} {o o':Ob} {val:Value} {us:Array Value} (ho:st.ob id=some o) (um:loc id= .tuple us) (hbase:dR val=dR (loc id)) (hsmall:id<10000) {g:Nat} (hg:gi (loc id) g) {w':World}
  (hch:∀b,b≠g→w'.heap[b]? =w.heap[b]?) (hos:w'.os=w.os) (Im:w'.tape=w.tape) (hout:w'.output=w.output) (hsz:w'.heap.size=w.heap.size)
  (cU:gV w0.heap.size L μ (uR loc id val) w' id o') (hap:∀j oj,st.ob j=some oj→j≠id→∀q,gi val q→¬gi (loc j) q) (Rf:L.q→w.drawn≤w'.drawn:=by exact fun _=>Nat.le_refl _):Rel N w0 μ0 L μ (uR loc id val) { st with ob:=put st.ob id (some o') } a w':=by
 obtain ⟨hown,hlt,qk⟩:=(hR.obs id o ho).block g hg
 have h1:=(hR.drop id).world (w':=w') (Mu.le.refl _) (fun _ _ _ h=> .inl h) (fun b j v h=>by
   have hne:b≠g:=fun e=>by subst e;rw [qk j] at h;cases h
   have:=hR.r7 b j v h
   rw [fT (hch b hne)];exact this) (fun i oi hi b hb=>by
   by_cases e:id=i
   ·subst e;simp [bT] at hi
   ·simp only [aX _ _ e] at hi
    have hne:b≠g:=fun e'=>by subst e';exact hR.apart id i o oi ho hi e b hg hb
    exact ⟨hch b hne,((hR.obs i oi hi).block b hb).2.2⟩) (fun b hb hl=>by
   refine hch b (fun e=> ?_);subst e;rcases hown with h|⟨v,hv,h⟩
   ·omega
   ·exact hl ⟨id,v,hv,h⟩) hos Im hout (by omega) Rf
 refine ⟨h1.small,h1.names,?_,h1.size,h1.defers,?_,h1.r7,h1.base,?_,?_,h1.keep,h1.os,h1.tape,h1.output,h1.grown,h1.drawn⟩
 ·intro i v hv hi
  have hne:i≠id:=fun e=>by subst e;rw [hR.names i hsmall] at hv;cases hv
  rw [cr _ _ hne];exact hR.fix i v hv hi
 ·intro i s hi
  obtain ⟨v,hv,hr⟩:=h1.env i s hi;exact ⟨v,hv,EB um hbase hr⟩
 ·intro i oi hi
  by_cases e:id=i
  ·subst e;simp only [bT,Option.some.injEq] at hi;subst hi;exact cU
  ·simp only [aX _ _ e] at hi
   exact O4 um hbase (h1.obs i oi (by simpa only [aX _ _ e] using hi)) (Ne.symm e)
 ·intro i j oi oj hi hj hij q hq
  by_cases ei:id=i
  ·subst ei
   simp only [aX _ _ hij] at hj;rw [cC] at hq;rw [cr _ _ (Ne.symm hij)];exact hap j oj hj (Ne.symm hij) q hq
  ·simp only [aX _ _ ei] at hi
   rw [cr _ _ (Ne.symm ei)] at hq;by_cases ej:id=j
   ·subst ej
    rw [cC];exact fun KH=>hap i oi hi hij q KH hq
   ·simp only [aX _ _ ej] at hj
    rw [cr _ _ (Ne.symm ej)];exact hR.apart i j oi oj hi hj hij q hq
theorem Rel.US (hR:Rel N w0 μ0 L μ loc st a w) (id:Nat):Rel N w0 μ0 L μ loc (st.bV id) a w:=by
 have hu:uR loc id (loc id)=loc:=funext fun i=>by
  by_cases e:i=id
  ·subst e;exact cC _ _ _
  ·exact cr _ _ e
 have hsub:∀i oi,(st.bV id).ob i=some oi→i≠id∧∃oj,st.ob i=some oj∧oi=oj.bV id:=fun i oi h=>by
  by_cases e:id=i
  ·subst e;simp [St.bV,bT] at h
  ·simp only [St.bV,aX _ _ e,Option.map_eq_some_iff] at h
   obtain ⟨oj,h1,h2⟩:=h;exact ⟨Ne.symm e,oj,h1,h2.symm⟩
 refine ⟨hR.small,hR.names,hR.fix,hR.size,hR.defers,?_,hR.r7,hR.base,?_,?_,hR.keep,hR.os,hR.tape,hR.output,hR.grown,hR.drawn⟩
 ·intro i s hi
  simp only [St.bV,Option.map_eq_some_iff] at hi;obtain ⟨s',h1,rfl⟩:=hi;obtain ⟨v,hv,hr⟩:=hR.env i s' h1;exact ⟨v,hv,dX hr⟩
 ·intro i oi hi
  obtain ⟨hne,oj,h1,rfl⟩:=hsub i oi hi;have:=vl (x:=loc id) (hR.obs i oj h1) hne
  rwa [hu] at this
 ·intro i j oi oj hi hj hij
  obtain ⟨_,PI,h1,_⟩:=hsub i oi hi;obtain ⟨_,Tm,h2,_⟩:=hsub j oj hj;exact hR.apart i j PI Tm h1 h2 hij
theorem sU {t:TypeId} {m k:Operand} {et:TypeId} {id:Nat} {key:AV} {k' e:TypeId} {sz:Nat} {ks:List AV} {vs:List (Option (List (List AV)))} (h:El P st t m k=some (et,id,key,k',e,sz,ks,vs)):
  ∃kt,P.underlying t=some (.map kt et)∧bw P t st m=some (.row id)∧(bw P kt st k).bind eL =some key∧st.ob id=some (.mr k' e sz ks vs)∧fc P kt key=true∧id<10000:=by
 unfold El at h;split at h
 ·rename_i kt et' hu
  split at h
  ·rename_i id' key' hm hk
   split at h
   ·rename_i k2 e2 sz2 ks2 YW cU
    cases hb:(fc P kt key'&&Nat.blt id' 10000) with
    |false=>rw [hb] at h;cases h
    |true=>
     simp only [hb,cond_true,Option.some.injEq,Prod.mk.injEq] at h;obtain ⟨rfl,rfl,rfl,rfl,rfl,rfl,rfl,rfl⟩:=h;rw [Bool.and_eq_true] at hb;exact ⟨kt,hu,hm,hk,cU,hb.1,by simpa [Nat.blt_eq] using hb.2⟩
   ·cases h
  ·cases h
 ·cases h
theorem JS {t:TypeId} {s:Nat} (h:je P t=some (.cm s [])) (w:World):(zeroValue t).run P w= .ok (.slice none 0 0) w:=by
 unfold je at h;split at h
 ·rename_i i hi
  split at h
  ·cases hz:lV P (mR P 8 t) _<;>rw [hz] at h<;>cases h
  ·rename_i v hne hz
   unfold ofConst at h;split at h
   ·cases h
   ·cases h
   ·cases h
   ·simp [zeroValue,typeInfo,hi,hz]
   ·cases h
   ·split at h<;>cases h
   ·cases h
  ·cases h
 ·cases h
theorem Ot {o:Oper} {t:TypeId} {m k:Operand} {d:Nat} (hR:Rel N w0 μ0 L μ loc st a w) (hd:d<N) (cK:o.dst=some d) (ho:o.op= .lookup t m k false) (h:Em P st t m k d=some st') (hK:ku N w0 μ0 L st' K):o.wp P a w K Q:=by
 unfold Em at h;split at h
 ·rename_i et id key k' e sz ks vs hmk
  obtain ⟨kt,hu,hm,hk,cU,hok,hid⟩:=sU hmk;cases G1:Nat.beq id d with
  |true=>rw [G1] at h;cases h
  |false=>
  simp only [G1,cond_false] at h;have hne:id≠d:=fun e=>by subst e;simp [Nat.beq_refl] at G1
  obtain ⟨b,bK,clock,us,hl,hown,hh,qk,h1,h2,h3,h4,h5,h6⟩:=hR.obs id _ cU;have mK:a.eval m= .map (some b):=by
   have:a.eval m=dR (loc id):=bf hR hm;rw [this,hl];rfl
  have hkr:=cV hR hk;have hd':d<10000:=Nat.lt_of_lt_of_le hd hR.small;split at h
  ·rename_i i hf
   have C1:=iL hkr hok h1 hf w;obtain ⟨ent,he,hrun,_⟩:=C1;split at h
   ·rename_i xs hvi
    injection h with h;subst h
    obtain ⟨u,cells,k1,k2,k3,k4,k5⟩:=h4 i xs hvi;have hval:u=ent.val:=by
     have he':bK[i]? =some ent:=by simpa using he
     simp [he'] at k2;exact k2.symm
    refine ez (v:=ent.val) (w':=w) (by
     unfold execOp;rw [ho]
     simp [mK,Instr.lookup,run_underlying hu,er hh,eG hkr hok,hrun]) ?_
    rw [cK,←hval];have hil:i<us.length:=(List.getElem?_eq_some_iff.1 k1).1
    have r1:=hR.Ww (id:=id) (o':= .mr k' e sz ks (vs.set i none)) (val:= .tuple (.map (some b)::us.set i undef).toArray) (g:=b) (w':=w) cU hl (by rw [hl];rfl) hid (by rw [hl];exact iN.2 (.inl rfl)) (fun _ _=>rfl) rfl rfl rfl rfl (by
      refine ⟨b,bK,clock,us.set i undef,cC _ _ _,hown,hh,qk,h1,by simp [h2],by simp [h3],fun q ys hq=> ?_,fun q hq=> ?_,fun q q' x y hx hy hqq g hg=> ?_⟩
      ·have hqi:q≠i:=fun e=>by subst e;simp [List.getElem?_set] at hq
       rw [List.getElem?_set_ne (Ne.symm hqi)] at hq;obtain ⟨u',cells',m1,m2⟩:=h4 q ys hq;exact ⟨u',cells',by rw [List.getElem?_set_ne (Ne.symm hqi)];exact m1,m2⟩
      ·by_cases hqi:q=i
       ·subst hqi;simp [List.getElem?_set,hil]
       ·rw [List.getElem?_set_ne (Ne.symm hqi)] at hq
        rw [List.getElem?_set_ne (Ne.symm hqi)];exact h5 q hq
      ·have und:∀(q:Nat) (z:Value),(us.set i undef)[q]? =some z→∀g,bX z=some g→us[q]? =some z:=fun q z hz g hg=>by
        by_cases hqi:q=i
        ·rw [hqi,List.getElem?_set_self hil] at hz
         injection hz with hz
         subst hz;simp [undef,bX] at hg
        ·rwa [List.getElem?_set_ne (Ne.symm hqi)] at hz
       intro hg'
       exact h6 q q' x y (und q x hx g hg) (und q' y hy g hg') hqq g hg hg') (fun j oj hj hji q hq=>by
      refine fun KI=>hR.apart id j _ oj cU hj (Ne.symm hji) q ?_ KI
      rw [hl];rcases iN.1 hq with rfl|⟨z,hz,VE⟩
      ·exact iN.2 (.inl rfl)
      ·rcases List.mem_or_eq_of_mem_set hz with hz|rfl
       ·exact iN.2 (.inr ⟨z,hz,VE⟩)
       ·simp [undef,bX] at VE)
    have hsl:dR u=u:=by rcases k3.2 with ⟨e1,_⟩|⟨g,cap,cur,e1,_⟩<;>rw [e1]<;>rfl
    have hin:∀g,gi u g→bX u=some g:=fun g hg=>by
     rcases k3.2 with ⟨e1,_⟩|⟨g',cap,cur,e1,_⟩<;>rw [e1] at hg⊢<;>exact fM.1 hg
    have r2:=r1.new (id:=d) (val:=u) (o:= .row e sz xs) (.inl hd') (by
      refine ⟨cells,by rw [cC];exact k3,k4,fun g hg=> ?_⟩;rw [cC] at hg;obtain ⟨m1,m2⟩:=k5 g (hin g hg)
      exact ⟨.inl m1,m2⟩) (fun j oj hj hjd g hg=>by
      have FB:=hin g hg;by_cases hji:id=j
      ·subst hji
       rw [cC];intro hb;rcases iN.1 hb with rfl|⟨z,hz,VE⟩
       ·
        rcases k3.2 with ⟨e1,_⟩|⟨g',cap,cur,e1,_,hg',_⟩
        ·rw [e1] at FB;simp [bX] at FB
        ·rw [e1] at FB;simp [bX] at FB;subst FB;rw [hh] at hg';cases hg'
       ·obtain ⟨q,hq,eq⟩:=List.mem_iff_getElem.1 hz
        have KH:(us.set i undef)[q]? =some z:=by rw [List.getElem?_eq_getElem hq,eq]
        by_cases hqi:q=i
        ·subst hqi
         simp [List.getElem?_set,hil] at KH;subst KH;simp [undef,bX] at VE
        ·rw [List.getElem?_set_ne (Ne.symm hqi)] at KH
         exact h6 q i z u KH k1 hqi g VE FB
      ·simp only [aX _ _ hji] at hj
       rw [cr _ _ (Ne.symm hji)]
       exact hR.apart id j _ oj cU hj hji g (by rw [hl];exact iN.2 (.inr ⟨u,List.mem_of_getElem? k1,FB⟩)))
    exact hK _ _ _ _ (r2.set (fun i hi=>by injection hi with hi;omega) (Jh hsl))
   ·cases h
  ·rename_i hf
   split at h
   ·rename_i s0 e' s hz hs
    split at h
    ·rename_i de
     obtain ⟨rfl,rfl,hpos⟩:=de;injection h with h;subst h
     have C1:=iL hkr hok h1 hf w;have XJ:=JS hz w
     refine ez (v:= .slice none 0 0) (w':=w) (by
      unfold execOp;rw [ho]
      simp [mK,Instr.lookup,run_underlying hu,er hh,eG hkr hok,C1,XJ]) ?_
     rw [cK];refine hK _ _ _ _ ((hR.new (id:=d) (val:= .slice none 0 0) (o:= .row e s []) (.inl hd') ?_ (fun j oj hj hne g hg=>by simp [gi,bX] at hg)).set (fun i hi=>by injection hi with hi;omega) (Jh rfl));refine ⟨[],⟨by simp, .inl ⟨cC _ _ _,rfl⟩⟩,rfl,fun g hg=> ?_⟩;rw [cC] at hg;simp [gi,bX] at hg
    ·cases h
   ·cases h
  ·cases h
 ·cases h
theorem MH {o:Oper} {t kt et:TypeId} {m k x:Operand} {id:Nat} {key:AV} {k' e:TypeId} {sz:Nat} {ks ks':List AV} {vs vs':List (Option (List (List AV)))} {xs:List (List AV)} {cells:List Value}
  (hR:Rel N w0 μ0 L μ loc st a w) (cK:o.dst=none) (ho:o.op= .mapUpdate t m k x∨o.op= .insert t m k x) (hu:P.underlying t=some (.map kt et)) (mK:a.eval m=dR (loc id)) (hkr:rep μ key (a.eval k)) (hok:fc P kt key=true)
  (cU:st.ob id=some (.mr k' e sz ks vs)) (hid:id<10000) (hput:q9 key (some xs) ks vs=some (ks',vs')) (hrow:w.ownsRow 0 e sz (a.eval x) xs.length cells) (hrc:cG μ sz xs cells)
  (hg:∀g,bX (a.eval x)=some g→w0.heap.size≤g∧∀j,μ g j=none) (hfree:∀j oj,st.ob j=some oj→∀g,bX (a.eval x)=some g→¬gi (loc j) g)
  (hK:ku N w0 μ0 L { st with ob:=put st.ob id (some (.mr k' e sz ks' vs')) } K):o.wp P a w K Q:=by
 obtain ⟨b,bK,clock,us,hl,hown,hh,qk,h1,h2,h3,h4,h5,h6⟩:=hR.obs id _ cU;have hmv':a.eval m= .map (some b):=by rw [mK,hl];rfl
 cases hf:gG key ks with
 |none=>simp [q9,hf] at hput
 |some r=>
 obtain ⟨e7,clock',hrun,q1,q2,_⟩:=uG (x:=a.eval x) hu hh hkr hok h1 hf;have hlt:=(Array.getElem?_eq_some_iff.1 hh).1;have hsl:∀g,gi (a.eval x) g→bX (a.eval x)=some g:=fun g hg=>by
  rcases hrow.2 with ⟨e1,_⟩|⟨g',cap,cur,e1,_⟩<;>rw [e1] at hg⊢<;>exact fM.1 hg
 have MO:bX (a.eval x)≠some b:=fun e=>by
  rcases hrow.2 with ⟨e1,_⟩|⟨g',cap,cur,e1,_,hg',_⟩
  ·rw [e1] at e;simp [bX] at e
  ·rw [e1] at e;simp [bX] at e;subst e;rw [hh] at hg';cases hg'
 have YN:∀u∈us,∀g,bX u=some g→bX (a.eval x)≠some g:=fun u hu g FB hgx=>hfree id _ cU g hgx (by rw [hl];exact iN.2 (.inr ⟨u,hu,FB⟩))
 have other:∀(u:Value) (cs:List Value) (ys:List (List AV)),w.ownsRow 0 e sz u ys.length cs→bX u≠some b→World.ownsRow { w with heap:=w.heap.setIfInBounds b (.map e7 clock') } 0 e sz u ys.length cs:=fun u cs ys hu hub=>
  rD hu (fun g hg=>by
   have:b≠g:=fun e=>hub (by rw [e];exact hg)
   simp only [];rw [Array.getElem?_setIfInBounds_ne this])
 have hub:∀u∈us,bX u≠some b:=fun u hu e=>by
  obtain ⟨i,ys,m1,m2⟩:=Th h2 h5 hu e;obtain ⟨u',cells',n1,n2,n3,_⟩:=h4 i ys m1;rw [m2] at n1;injection n1 with n1;subst n1
  rcases n3.2 with ⟨e1,_⟩|⟨g',cap,cur,e1,_,hg',_⟩
  ·rw [e1] at e;simp [bX] at e
  ·rw [e1] at e;simp [bX] at e;subst e;rw [hh] at hg';cases hg'
 have fin:∀us',(∀u∈us',u∈us∨u=a.eval x)→gV w0.heap.size L μ (uR loc id (.tuple (.map (some b)::us').toArray)) { w with heap:=w.heap.setIfInBounds b (.map e7 clock') } id (.mr k' e sz ks' vs')→o.wp P a w K Q:=fun us' yc ql=>by
  have r1:=hR.Ww (id:=id) (val:= .tuple (.map (some b)::us').toArray) (g:=b) (w':={ w with heap:=w.heap.setIfInBounds b (.map e7 clock') }) cU hl (by rw [hl];rfl) hid (by rw [hl];exact iN.2 (.inl rfl))
   (fun b' hb'=>by simp only [];rw [Array.getElem?_setIfInBounds_ne (fun e=>hb' e.symm)]) rfl rfl rfl (by simp) ql (fun j oj hj hji q hq=>by
    rcases iN.1 hq with rfl|⟨z,hz,VE⟩
    ·exact fun KI=>hR.apart id j _ oj cU hj (Ne.symm hji) q (by rw [hl];exact iN.2 (.inl rfl)) KI
    ·rcases yc z hz with hz|rfl
     ·exact fun KI=>hR.apart id j _ oj cU hj (Ne.symm hji) q (by rw [hl];exact iN.2 (.inr ⟨z,hz,VE⟩)) KI
     ·exact hfree j oj hj q VE)
  have:((execOp a.eval o).run P w)= .ok .skip { w with heap:=w.heap.setIfInBounds b (.map e7 clock') }:=by
   unfold execOp;rcases ho with ho|ho<;>rw [ho]<;>simp [hmv',hrun]
  unfold Oper.wp;rw [this];simp only [Oper.upon,cK];exact hK _ _ _ _ r1
 cases r with
 |none=>
  simp only [q9,hf,Option.some.injEq,Prod.mk.injEq] at hput;obtain ⟨rfl,rfl⟩:=hput;obtain ⟨c1,c2⟩:=q1 rfl;have hsize:e7.size=bK.size+1:=by have:=congrArg List.length c2;simpa using this
  refine fin (us++[a.eval x]) (fun u hu=>by simpa using hu) ⟨b,e7,clock',us++[a.eval x],cC _ _ _,hown,by simp [hlt],qk,c1,by simp [h2],by simp [hsize,h3],fun i ys hi=> ?_,fun i hi=> ?_,fun i j u v hu hv hij g FB Uu=> ?_⟩
  ·by_cases hil:i<vs.length
   ·rw [List.getElem?_append_left hil] at hi
    obtain ⟨u,cs,n1,n2,n3,n4,n5⟩:=h4 i ys hi;exact ⟨u,cs,by rw [List.getElem?_append_left (by omega)];exact n1,by rw [c2,List.getElem?_append_left (by simp;omega)];exact n2,other u cs ys n3 (hub u (List.mem_of_getElem? n1)),n4,n5⟩
   ·rw [List.getElem?_append_right (by omega)] at hi
    have KE:i-vs.length=0:=by
     have:=(List.getElem?_eq_some_iff.1 hi).1;simp at this;omega
    rw [KE] at hi;simp at hi;subst hi;refine ⟨a.eval x,cells,?_,?_,other _ _ _ hrow MO,hrc,hg⟩
    ·rw [List.getElem?_append_right (by omega),h2,KE];rfl
    ·rw [c2,List.getElem?_append_right (by simp;omega)];simp [h3,KE]
  ·by_cases hil:i<vs.length
   ·rw [List.getElem?_append_left hil] at hi
    rw [List.getElem?_append_left (by omega)];exact h5 i hi
   ·rw [List.getElem?_append_right (by omega)] at hi
    have KE:i-vs.length=0:=by
     have:=(List.getElem?_eq_some_iff.1 hi).1;simp at this;omega
    rw [KE] at hi;simp at hi
  ·have split:∀q z,(us++[a.eval x])[q]? =some z→(us[q]? =some z)∨(q=us.length∧z=a.eval x):=fun q z hz=>by
    by_cases hq:q<us.length
    ·rw [List.getElem?_append_left hq] at hz;exact .inl hz
    ·rw [List.getElem?_append_right (by omega)] at hz
     have h0:q-us.length=0:=by
      have:=(List.getElem?_eq_some_iff.1 hz).1;simp at this;omega
     rw [h0] at hz;simp at hz;exact .inr ⟨by omega,hz.symm⟩
   rcases split i u hu with XC|⟨e1,e2⟩<;>rcases split j v hv with XE|⟨e3,e4⟩
   ·exact h6 i j u v XC XE hij g FB Uu
   ·rw [e4] at Uu;exact YN u (List.mem_of_getElem? XC) g FB Uu
   ·rw [e2] at FB;exact YN v (List.mem_of_getElem? XE) g Uu FB
   ·exact hij (e1.trans e3.symm)
 |some p=>
  simp only [q9,hf,Option.some.injEq,Prod.mk.injEq] at hput;obtain ⟨rfl,rfl⟩:=hput;obtain ⟨c1,c2,OL⟩:=q2 p rfl;have hsize:e7.size=bK.size:=by have:=congrArg List.length c2;simpa using this
  have hpu:p<us.length:=by omega
  refine fin (us.set p (a.eval x)) (fun u hu=>List.mem_or_eq_of_mem_set hu) ⟨b,e7,clock',us.set p (a.eval x),cC _ _ _,hown,by simp [hlt],qk,c1,by simp [h2],by simp [hsize,h3],fun i ys hi=> ?_,fun i hi=> ?_,fun i j u v hu hv hij g FB Uu=> ?_⟩
  ·by_cases Vu:i=p
   ·subst Vu
    rw [List.getElem?_set] at hi;simp [show i<vs.length by omega] at hi;subst hi;refine ⟨a.eval x,cells,by simp [List.getElem?_set,hpu],by rw [c2];simp [List.getElem?_set,OL],other _ _ _ hrow MO,hrc,hg⟩
   ·rw [List.getElem?_set_ne (Ne.symm Vu)] at hi
    obtain ⟨u,cs,n1,n2,n3,n4,n5⟩:=h4 i ys hi;exact ⟨u,cs,by rw [List.getElem?_set_ne (Ne.symm Vu)];exact n1,by rw [c2,List.getElem?_set_ne (Ne.symm Vu)];exact n2,other u cs ys n3 (hub u (List.mem_of_getElem? n1)),n4,n5⟩
  ·by_cases Vu:i=p
   ·subst Vu
    rw [List.getElem?_set] at hi;simp at hi
   ·rw [List.getElem?_set_ne (Ne.symm Vu)] at hi
    rw [List.getElem?_set_ne (Ne.symm Vu)];exact h5 i hi
  ·have split:∀q z,(us.set p (a.eval x))[q]? =some z→(us[q]? =some z)∨(q=p∧z=a.eval x):=fun q z hz=>by
    by_cases hq:q=p
    ·subst hq
     simp [List.getElem?_set,hpu] at hz;exact .inr ⟨rfl,hz.symm⟩
    ·rw [List.getElem?_set_ne (Ne.symm hq)] at hz;exact .inl hz
   rcases split i u hu with XC|⟨e1,e2⟩<;>rcases split j v hv with XE|⟨e3,e4⟩
   ·exact h6 i j u v XC XE hij g FB Uu
   ·rw [e4] at Uu;exact YN u (List.mem_of_getElem? XC) g FB Uu
   ·rw [e2] at FB;exact YN v (List.mem_of_getElem? XE) g Uu FB
   ·exact hij (e1.trans e3.symm)
theorem HC {o:Oper} {t:TypeId} {m k x:Operand} (hR:Rel N w0 μ0 L μ loc st a w) (cK:o.dst=none) (ho:o.op= .mapUpdate t m k x∨o.op= .insert t m k x) (h:LH P st t m k x=some st') (hK:ku N w0 μ0 L st' K):o.wp P a w K Q:=by
 unfold LH at h;split at h
 ·rename_i et id key k' e sz ks vs hmk
  obtain ⟨kt,hu,hm,hk,cU,hok,hid⟩:=sU hmk;have mK:a.eval m=dR (loc id):=bf hR hm;have hkr:=cV hR hk;split at h
  ·split at h
   ·rename_i e' s hs
    split at h
    ·rename_i de
     split at h
     ·rename_i ks' vs' hput
      injection h with h;subst h
      have hx:a.eval (.const (.slice none 0 0))= .slice none 0 0:=rfl;exact MH (cells:=[]) hR cK ho hu mK hkr hok cU hid hput (by rw [hx];exact ⟨by simp, .inl ⟨rfl,rfl⟩⟩) rfl (fun g hg=>by rw [hx] at hg;simp [bX] at hg) (fun j oj _ g hg=>by rw [hx] at hg;simp [bX] at hg) hK
     ·cases h
    ·cases h
   ·cases h
  ·split at h
   ·rename_i j hx
    split at h
    ·rename_i e' s xs Rp
     split at h
     ·rename_i de
      obtain ⟨rfl,rfl,hj⟩:=de;split at h
      ·rename_i ks' vs' hput
       injection h with h;subst h
       have hne:id≠j:=fun e=>by subst e;rw [cU] at Rp;cases Rp
       have qW:a.eval x=loc j:=(bf hR hx:a.eval x=dR (loc j)).trans (iG (hR.obs j _ Rp));obtain ⟨cells,hrow,hrc,hgj⟩:=hR.obs j _ Rp;have hob2:(st.bV j).ob id=some (.mr k' e s ks vs):=by simp [St.bV,aX _ _ (Ne.symm hne),cU,Ob.bV]
       refine MH (cells:=cells) (hR.US j) cK ho hu mK hkr hok hob2 hid hput (by rw [qW];exact hrow) hrc (fun g hg=> ?_) (fun i oi hi g hg=> ?_) hK
       ·rw [qW] at hg
        obtain ⟨m1,m2⟩:=hgj g (.inl hg);rcases m1 with m1|⟨v,hv,_⟩
        ·exact ⟨m1,m2⟩
        ·rw [hR.names j hj] at hv;cases hv
       ·rw [qW] at hg
        by_cases e:j=i
        ·subst e;simp [St.bV,bT] at hi
        ·simp only [St.bV,aX _ _ e,Option.map_eq_some_iff] at hi
         obtain ⟨PI,hi',_⟩:=hi;exact hR.apart j i _ PI Rp hi' e g (.inl hg)
      ·cases h
     ·cases h
    ·cases h
   ·cases h
 ·cases h
theorem Kn {o:Oper} {t k e e':TypeId} {s:Nat} {r:Option Operand} {d:Nat} (hR:Rel N w0 μ0 L μ loc st a w) (hd:d<N) (cK:o.dst=some d) (ho:o.op= .makeMap t r) (ht:P.underlying t=some (.map k e))
  (hr:nw P st r=true) (hK:ku N w0 μ0 L ((st.new d (.mr k e' s [] [])).set (some d) (.row d)) K):o.wp P a w K Q:=by
 have hrun:=zL (P:=P) hR ht hr;refine ez (v:= .map (some w.heap.size)) (w':=w.alloc (.map #[] 0)) (by unfold execOp;rw [ho];simp [hrun]) ?_;rw [cK];have h1:=(hR.MJ (mc w (.map #[] 0))).new (id:=d) (val:= .tuple (.map (some w.heap.size)::[]).toArray) (o:= .mr k e' s [] []) (.inl (Nat.lt_of_lt_of_le hd hR.small))
  ⟨w.heap.size, #[],0,[],cC _ _ _,hR.grown,(by show (w.heap.push _)[w.heap.size]? =_;simp),sV hR _ (Nat.le_refl _),by simp [bF],rfl,rfl,by simp,by simp,by simp⟩ (fun j oj hj hne g hg=>by
  rcases iN.1 hg with rfl|⟨u,hu,_⟩
  ·intro hb
   have:=((hR.obs j oj hj).block _ hb).2.1;omega
  ·simp at hu)
 exact hK _ _ _ _ (h1.set (fun i hi=>by injection hi with hi;omega) (by show _=dR (uR _ _ _ _);rw [cC];rfl))
theorem Ov {o:Oper} {t:TypeId} {x:Operand} {d:Nat} {s:List UInt8} (hR:Rel N w0 μ0 L μ loc st a w) (hd:d<N) (cK:o.dst=some d) (ho:o.op= .range t x) (ht:P.underlying t=some .string) (hx:(bw P t st x).bind eL =some (.str s))
  (hK:ku N w0 μ0 L ((st.new d (.it s 0)).set (some d) (.ptr d 0)) K):o.wp P a w K Q:=by
 have hv:=cV hR hx;rw [rep] at hv;refine ez (v:= .pointer (some ⟨w.heap.size,0,none⟩)) (w':=w.alloc (.stringIter ⟨s.toArray⟩ 0)) (by unfold execOp;rw [ho];simp [Instr.range,run_underlying ht,hv,newObj,Sem.run]) ?_;rw [cK];refine hK _ _ _ _ (hR.made hd (fun g hg=>jH.1 hg) ?_ ?_)
 ·exact ⟨w.heap.size,cC _ _ _, .inl hR.grown,(by show (w.heap.push _)[w.heap.size]? =_;simp),sV hR _ (Nat.le_refl _)⟩
 ·exact ⟨w.heap.size,cC _ _ _,rfl⟩
theorem Qx {o:Oper} {x:Operand} {d id pos:Nat} {s:List UInt8} (hR:Rel N w0 μ0 L μ loc st a w) (hd:d<N) (cK:o.dst=some d) (ho:o.op= .next x true) (hx:bw P 0 st x=some (.ptr id 0)) (cU:st.ob id=some (.it s pos))
  (hK:if pos<s.length then ku N w0 μ0 L (St.set { st with ob:=put st.ob id (some (.it s (pos+(Utf8.decode ⟨s.toArray⟩ pos).2))) } (some d) (.pv (.fG [.bool true, .int .i64 pos, .int .i32 (Utf8.decode ⟨s.toArray⟩ pos).1]))) K
   else ku N w0 μ0 L (st.set (some d) (.pv (.fG [.bool false]))) K):o.wp P a w K Q:=by
 obtain ⟨b0,hl0,hv⟩:=bf hR hx;obtain ⟨b,hl,hown,hh,qk⟩:=hR.obs id _ cU;rw [hl] at hl0;simp only [Value.pointer.injEq,Option.some.injEq,Addr.mk.injEq,and_true] at hl0;subst hl0;have hsz:(⟨s.toArray⟩:ByteArray).size=s.length:=by simp [ByteArray.size]
 have hlt:=(Array.getElem?_eq_some_iff.1 hh).1;have iW:(getObj b).run P w= .ok (.stringIter ⟨s.toArray⟩ pos) w:=by simp [getObj,Sem.run,hh]
 by_cases hp:pos<s.length
 ·rw [if_pos hp] at hK
  refine ez (v:= .tuple #[.bool true, .int .i64 pos, .int .i32 (Utf8.decode ⟨s.toArray⟩ pos).1]) (w':={ w with heap:=w.heap.setIfInBounds b (.stringIter ⟨s.toArray⟩ (pos+(Utf8.decode ⟨s.toArray⟩ pos).2)) }) (by
   unfold execOp;rw [ho];simp [Instr.next,hv,iW,hsz,hp,goInt]
   simp [setObj,Sem.run,hh]) ?_
  rw [cK]
  have r1:=hR.write cU (o':= .it s (pos+(Utf8.decode ⟨s.toArray⟩ pos).2)) (g:=b) (by rw [hl];exact jH.2 rfl) (w':={ w with heap:=w.heap.setIfInBounds b (.stringIter ⟨s.toArray⟩ (pos+(Utf8.decode ⟨s.toArray⟩ pos).2)) }) (fun b' hb'=>by
   simp only [];rw [Array.getElem?_setIfInBounds_ne (fun e=>hb' e.symm)]) rfl rfl rfl (by simp) ⟨b,hl,hown,by simp [hlt],qk⟩
  refine hK _ _ _ _ (r1.set (fun i hi=>by injection hi with hi;omega) ?_);show rep μ (.fG _) _;rw [rep];exact ⟨[.bool true, .int .i64 pos, .int .i32 (Utf8.decode ⟨s.toArray⟩ pos).1],rfl,bq (by simp [rep]) (bq (by simp [rep]) (bq (by simp [rep]) bZ))⟩
 ·rw [if_neg hp] at hK
  refine ez (v:= .tuple #[.bool false]) (w':=w) (by
   unfold execOp;rw [ho]
   simp [Instr.next,hv,iW,hsz,hp]) ?_
  rw [cK];refine hK _ _ _ _ (hR.set (fun i hi=>by injection hi with hi;omega) ?_);show rep μ (.fG _) _;rw [rep];exact ⟨[.bool false],rfl,bq (by simp [rep]) bZ⟩
end
end Go.AM
