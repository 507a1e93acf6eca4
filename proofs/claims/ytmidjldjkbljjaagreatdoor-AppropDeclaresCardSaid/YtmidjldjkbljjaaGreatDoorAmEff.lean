/- THE ABSTRACT MACHINE. -/
import Derived.Test.YtmidjldjkbljjaaGreatDoorAmStep
set_option linter.unusedVariables false
set_option linter.unusedSimpArgs false
namespace Go.AM
open Go.RowKit
section
variable {μ μ':Mu} {loc:Nat→Value}
theorem ri {sz b:Nat} {xs:List (List AV)} {vs:List Value} {off:Nat} (h:cD μ sz xs vs) (hle:μ.le μ') (hc:∀j u,vs[j]? =some u→μ' b (off+j)=some u):fc μ' sz b xs off:=by
 induction xs generalizing vs off with
 |nil=>simp [fc]
 |cons x xs ih=>
  obtain ⟨us,ws,rfl,h1,h2,h3⟩:=h;rw [fc];refine ⟨⟨us,(h1.mono hle).1,h1.2,h2,fun j u hu=>hc j u ?_⟩,ih h3 fun j u hu=> ?_⟩
  ·rw [List.getElem?_append_left (by simpa using (List.getElem?_eq_some_iff.1 hu).1)];exact hu
  ·have:=hc (sz+j) u (by rw [List.getElem?_append_right (by omega),h2];simpa using hu)
   rwa [←Nat.add_assoc] at this
theorem mz {sz:Nat} {xs ys:List (List AV)} {vs us:List Value} (h:cD μ sz xs vs) (k:cD μ sz ys us):cD μ sz (xs++ys) (vs++us):=by
 induction xs generalizing vs with
 |nil=>have:vs=[]:=h;subst this;simpa using k
 |cons x xs ih=>obtain ⟨a,b,rfl,h1,h2,h3⟩:=h;exact ⟨a,b++us,by simp,h1,h2,ih h3⟩
theorem jQ {sz:Nat} {z:List AV} {zs:List Value} (h:gy μ z zs) (hl:zs.length=sz):∀n,cD μ sz (List.replicate n z) (List.replicate n zs).flatten
 |0=>rfl
 |n+1=>⟨zs,(List.replicate n zs).flatten,by simp [List.replicate_succ],h,hl,jQ h hl n⟩
theorem rj {sz:Nat}:∀(n:Nat) {cs:List AV} {vs:List Value},gy μ cs vs→cs.length=n *sz→cD μ sz (chunks sz n cs) vs
 |0,cs,vs,h,hl=>by
  have:vs=[]:=List.eq_nil_of_length_eq_zero (by rw [h.length];omega);subst this;rfl
 |n+1,cs,vs,h,hl=>by
  rw [Nat.add_mul] at hl;have hv:=h.length;exact ⟨vs.take sz,vs.drop sz,by simp,h.take sz,by simp;omega,rj n (h.drop sz) (by simp;omega)⟩
theorem vS {z:List AV} {zs:List Value} (h:gy μ z zs):∀n,gy μ (l8 z n) (List.replicate n zs).flatten
 |0=>⟨b8,by simp⟩
 |n+1=>by simpa [l8,List.replicate_succ] using h.append (vS h n)
theorem rf (z:List AV):∀n,(l8 z n).length=n *z.length
 |0=>by simp [l8]
 |n+1=>by simp [l8,rf z n,Nat.add_mul];omega
theorem tF (sz:Nat):∀(n:Nat) (l:List AV),(chunks sz n l).length=n
 |0,_=>rfl
 |n+1,l=>by simp [chunks,tF sz n]
theorem dU {id:Nat} {s:SV} {v:Value} (k:cT μ loc s v):cT μ loc (s.bR id) v:=by
 unfold SV.bR;cases s.mentions id with
 |true=>trivial
 |false=>exact k
theorem Fi {id:Nat} {s:SV} {v:Value} {x:AV} (k:cT μ loc s v) (hx:rep μ x (dL (loc id))):cT μ loc (s.cL id x) v:=by
 cases s with
 |row j=>
  cases h:Nat.beq j id with
  |true=>
   simp only [SV.cL,h,cond_true];have:=beq_iff.1 h;subst this;have e:v=dL (loc j):=k;rw [e];exact hx
  |false=>simp only [SV.cL,h,cond_false];exact k
 |_=>exact dU k
theorem HR {id:Nat} {v:Value} (h:dL v=v):cT μ (tV loc id v) (.row id) v:=by
 show v=dL (tV loc id v id);rw [cA,h]
theorem qx (zc:Array Value) (s:Nat) (hz:zc.size=s) (hs:0<s) (n:Nat):(madeCells zc (n *s)).toList=(List.replicate n zc.toList).flatten:=by
 have key:∀n,(List.range (n *s)).map (fun i=>zc[i % s]!)=(List.replicate n zc.toList).flatten:=by
  intro n
  induction n with
  |zero=>simp
  |succ n ih=>
   rw [Nat.succ_mul,Nat.add_comm,List.range_add,List.map_append,List.map_map];have h1:(List.range s).map (fun i=>zc[i % s]!)=zc.toList:=by
    apply List.ext_getElem?;intro i;simp only [List.getElem?_map,List.getElem?_range];by_cases hi:i<s
    ·simp [hi,List.getElem?_range,Nat.mod_eq_of_lt hi,hz,getElem!_pos,Array.getElem?_eq_getElem (show i<zc.size by omega)]
    ·simp [hi,List.getElem?_eq_none (show zc.toList.length≤i by simp;omega),List.getElem?_eq_none (show (List.range s).length≤i by simp;omega)]
   have h2:((fun i=>zc[i % s]!)∘fun x=>s+x)=fun i=>zc[i % s]! :=by
    funext i;simp [Function.comp]
   rw [h1,h2,ih];simp [List.replicate_succ]
 have:=key n;simpa [madeCells,hz] using this
theorem FK (zs:List Value) {l c:Nat} (h:l≤c):(List.replicate c zs).flatten.take (l *zs.length)=(List.replicate l zs).flatten:=by
 obtain ⟨d,rfl⟩:=Nat.exists_eq_add_of_le h;rw [←List.replicate_append_replicate,List.flatten_append,List.take_append_of_le_length (by simp)];exact List.take_of_length_le (by simp)
end
section
variable {P:Program} {N:Nat} {w0:World} {μ0:Mu} {L:kP} {μ:Mu} {loc:Nat→Value} {st st':St} {a:Act} {w:World} {Q:Exit→Act→World→Prop} {K:Act→World→Prop}
theorem HS {e sz:Nat} {xs:List (List AV)} {u:Value} {cells:List Value} (hown:w.ownsRow 0 e sz u xs.length cells) (hrc:cD μ sz xs cells) {μ':Mu} (hle:μ.le μ')
  (hm:∀b j v,bV u=some b→zy w b j=some v→μ' b j=some v):rep μ' (.bS sz xs) u:=by
 have hone:=kz hrc;rw [rep];rcases hown.2 with ⟨e1,e2⟩|⟨g,cap,cur,e1,_,hg,hnc,hcm,_⟩
 ·exact ⟨none,0,by rw [e1,e2],by omega,by simp [maxLen], .inl e2⟩
 ·refine ⟨_,cap,e1,hnc,hcm, .inr ⟨g,0,rfl,ri hrc hle fun j u hu=> ?_⟩⟩
  have:=hown.cells (g:=g) (by rw [e1];rfl) j u hu;rw [add_lit] at this;exact hm g _ u (by rw [e1];rfl) (mg this (hone u (List.mem_of_getElem? hu)))
theorem yy {α:Type}:∀{vs:List (Option α)} {l:List α},lC vs=some l→vs=l.map some
 |[],l,h=>by simp only [lC,Option.some.injEq] at h;subst h;rfl
 |none::vs,l,h=>by simp [lC] at h
 |some x::vs,l,h=>by
  simp only [lC,Option.map_eq_some_iff] at h;obtain ⟨l',h1,rfl⟩:=h;simp [yy h1]
theorem My {n0:Nat} {id:Nat} {o:Ob} {v:AV} (h:gQ n0 L μ loc w id o) (hv:o.val=some v) {μ':Mu} (hle:μ.le μ')
  (hm:∀b j v,fV (loc id) b→zy w b j=some v→μ' b j=some v):rep μ' v (dL (loc id)):=by
 cases o with
 |box t cells=>simp [Ob.val] at hv
 |it s n=>simp [Ob.val] at hv
 |row e sz xs=>
  simp only [Ob.val,Option.some.injEq] at hv;subst hv;rw [iH h];obtain ⟨vs,hown,hrc,_⟩:=h;exact HS hown hrc hle (fun b j v hb=>hm b j v (.inl hb))
 |mp k e ks es=>
  simp only [Ob.val,Option.some.injEq] at hv;subst hv;rw [Lc h];obtain ⟨b,bL,clock,hl,_,hh,_,h1,h2,_⟩:=h;rw [rep,hl];exact .inr ⟨b,_,_,rfl,dg hle _ _ h1,dg hle _ _ h2,hm b 0 _ (by rw [hl];exact mJ.2 rfl) (Bk hh)⟩
 |mr k e sz ks vs=>
  simp only [Ob.val,Option.map_eq_some_iff] at hv;obtain ⟨l,hal,rfl⟩:=hv;obtain ⟨b,bL,clock,us,hl,_,hh,_,h1,h2,h3,h4,h5,h6⟩:=h;have hvs:=yy hal;rw [hl,rep];refine .inr ⟨b,_,bL.toList.map (·.val),rfl,dg hle _ _ h1,?_,hm b 0 _ (by rw [hl];exact iM.2 (.inl rfl)) (Bk hh)⟩;have key:∀(l:List (List (List AV))) (es:List Value),es.length=l.length→(∀(i:Nat) xs,l[i]? =some xs→∃u,es[i]? =some u∧rep μ' (.bS sz xs) u)→bB μ' (l.map (.bS sz)) es:=by
   intro l
   induction l with
   |nil=>intro es he _;rw [List.eq_nil_of_length_eq_zero he];exact b8
   |cons x l ih=>
    intro es he hall;cases es with
    |nil=>simp at he
    |cons u es=>
     obtain ⟨u',zu,hr⟩:=hall 0 x (by simp);simp at zu;subst zu
     exact bD hr (ih es (by simpa using he) (fun i xs hi=>by
      obtain ⟨u2,VH,WT⟩:=hall (i+1) xs (by simpa using hi)
      exact ⟨u2,by simpa using VH,WT⟩))
  refine key l _ (by simp [h3,hvs]) (fun i xs hi=> ?_);obtain ⟨u,cells,k1,k2,k3,k4,k5⟩:=h4 i xs (by rw [hvs];simp [hi]);exact ⟨u,k2,HS k3 k4 hle (fun g j v hg=>hm g j v (by rw [hl];exact iM.2 (.inr ⟨u,List.mem_of_getElem? k1,hg⟩)))⟩
open Classical in
noncomputable def jf (w:World) (loc:Nat→Value) (id:Nat) (μ:Mu):Mu:=fun b j=>if fV (loc id) b then zy w b j else μ b j
theorem Rel.RB (hR:Rel N w0 μ0 L μ loc st a w) {id:Nat} {o:Ob} (cQ:st.ob id=some o) (hlt:id<10000) (f:SV→SV) (g:Ob→Ob) (hf:∀s v,cT (jf w loc id μ) loc s v→cT (jf w loc id μ) loc (f s) v)
  (hg:∀ob,g ob=match ob with| .box t cells=> .box t (cells.map f)|o=>o):
  μ.le (jf w loc id μ)∧Rel N w0 μ0 L (jf w loc id μ) loc { env:=fun i=>(st.env i).map f,ob:=put (fun i=>(st.ob i).map g) id none } a w:=by
 have hok:=hR.obs id _ cQ;have Nh:∀(cs:List SV) (vs:List Value),ep (jf w loc id μ) loc cs vs→ep (jf w loc id μ) loc (cs.map f) vs:=by
  intro cs
  induction cs with
  |nil=>intro vs h;exact h
  |cons c cs ih=>rintro vs ⟨u,us,e,h1,h2⟩;exact ⟨u,us,e,hf _ _ h1,ih us h2⟩
 have hle:μ.le (jf w loc id μ):=fun b j v hv=>by
  by_cases hb:fV (loc id) b
  ·have:=(hok.block b hb).2.2 j;rw [this] at hv;cases hv
  ·simpa [jf,hb] using hv
 have VA:∀i oi,i≠id→st.ob i=some oi→∀b,fV (loc i) b→∀j,jf w loc id μ b j=none:=fun i oi hne hi b hb j=>by
  have hn:¬fV (loc id) b:=fun hid=>hR.apart id i _ oi cQ hi (fun e=>hne e.symm) b hid hb
  simp only [jf,if_neg hn];exact (hR.obs i oi hi).block b hb|>.2.2 j
 have h1:=(hR.drop id).world (w':=w) (μ':=jf w loc id μ) hle (fun b j v hv=>by
   by_cases hb:fV (loc id) b
   ·rcases (hok.block b hb).1 with hh|⟨v,hh,_⟩
    ·exact .inr hh
    ·rw [hR.names id hlt] at hh;cases hh
   ·exact .inl (by simpa [jf,hb] using hv)) (fun b j v hv=>by
   by_cases hb:fV (loc id) b
   ·simpa [jf,hb] using hv
   ·exact hR.q8 b j v (by simpa [jf,hb] using hv)) (fun i oi hi b hb=>by
   by_cases e':id=i
   ·subst e';simp [bO] at hi
   ·simp only [aV _ _ e'] at hi
    exact ⟨rfl,VA i oi (fun e=>e' e.symm) hi b hb⟩) (fun _ _ _=>rfl) rfl rfl rfl (Nat.le_refl _)
 refine ⟨hle,h1.small,h1.names,h1.fix,h1.size,h1.defers,?_,h1.q8,h1.base,?_,?_,h1.keep,h1.os,h1.tape,h1.output,h1.grown,h1.drawn⟩
 ·intro i s hi
  simp only [] at hi;cases he:st.env i with
  |none=>simp [he] at hi
  |some s'=>
   simp [he] at hi;subst hi;obtain ⟨v,hv,hr⟩:=h1.env i s' he;exact ⟨v,hv,hf _ _ hr⟩
 ·intro i oi hi
  by_cases e':id=i
  ·subst e';simp [bO] at hi
  ·simp only [aV _ _ e'] at hi
   cases ho:st.ob i with
   |none=>simp [ho] at hi
   |some oj=>
    simp [ho] at hi;subst hi;have k:=h1.obs i oj (by simpa only [aV _ _ e'] using ho);rw [hg];cases oj with
    |box t cells=>
     obtain ⟨b,vs,hl,ho',hh,hm,hs,Jz⟩:=k;exact ⟨b,vs,hl,ho',hh,hm,Nh _ _ hs,Jz⟩
    |row e2 sz2 xs2=>exact k
    |mp k2 e2 ks2 vs2=>exact k
    |mr k2 e2 s2 ks2 vs2=>exact k
    |it s2 n2=>exact k
 ·intro i j oi oj hi hj hij
  have get:∀k ok,put (fun i=>(st.ob i).map g) id none k=some ok→∃ok',st.ob k=some ok':=fun k ok hk=>by
   by_cases e':id=k
   ·subst e';simp [bO] at hk
   ·simp only [aV _ _ e'] at hk
    cases ho:st.ob k with
    |none=>simp [ho] at hk
    |some x=>exact ⟨x,rfl⟩
  obtain ⟨N6,hi'⟩:=get i oi hi;obtain ⟨Rv,hj'⟩:=get j oj hj;exact hR.apart i j N6 Rv hi' hj' hij
theorem Ry {id:Nat} (h:r7 id=true):id<10000:=by simpa [r7,Nat.blt_eq] using h
theorem Rel.cL (hR:Rel N w0 μ0 L μ loc st a w) {id:Nat} (h:st.cL id=some st'):∃μ',μ.le μ'∧Rel N w0 μ0 L μ' loc st' a w:=by
 unfold St.cL at h;split at h
 ·rename_i v hid pJ
  injection h with h
  subst h;obtain ⟨o,cQ,hval⟩:=Option.bind_eq_some_iff.1 pJ;have hok:=hR.obs id _ cQ;have hle:μ.le (jf w loc id μ):=fun b j v hv=>by
   by_cases hb:fV (loc id) b
   ·have:=(hok.block b hb).2.2 j;rw [this] at hv;cases hv
   ·simpa [jf,hb] using hv
  have qq:rep (jf w loc id μ) v (dL (loc id)):=My hok hval hle fun b j v hb hc=>by simpa [jf,hb] using hc
  exact ⟨_,hR.RB cQ (Ry hid) (SV.cL id v) (Ob.cL id v) (fun s u hs=>Fi hs qq) (fun ob=>by cases ob<;>rfl)⟩
 ·cases h
theorem Rel.ig (hR:Rel N w0 μ0 L μ loc st a w) {id:Nat} (h:st.ig id=some st'):∃μ',μ.le μ'∧Rel N w0 μ0 L μ' loc st' a w:=by
 unfold St.ig at h;split at h
 ·rename_i t cells hid cQ
  split at h
  ·rename_i cs hcs
   injection h with h
   subst h;obtain ⟨b,vs,hl,ho,hh,hm,hs,h1⟩:=hR.obs id _ cQ;have hle:μ.le (jf w loc id μ):=fun b' j v hv=>by
    by_cases hb:fV (loc id) b'
    ·have:=((hR.obs id _ cQ).block b' hb).2.2 j;rw [this] at hv;cases hv
    ·simpa [AM.jf,hb] using hv
   have hc:gy (jf w loc id μ) cs vs:=⟨dg hle _ _ (yx hcs hs),h1⟩
   refine ⟨_,hR.RB cQ (Ry hid) (SV.ig id cs) (Ob.ig id cs) (fun s u hs=> ?_) (fun ob=>by cases ob<;>rfl)⟩;cases s with
   |ptr j off=>
    simp only [SV.ig];cases hj:Nat.beq j id with
    |false=>exact hs
    |true=>
     have:=beq_iff.1 hj;subst this;obtain ⟨b',hl',rfl⟩:=hs;rw [hl] at hl';simp only [Value.pointer.injEq,Option.some.injEq,Addr.mk.injEq] at hl';obtain ⟨rfl,_⟩:=hl';refine ⟨b,off,vs.drop off,rfl,hc.drop off,fun k u hu=> ?_⟩;rw [List.getElem?_drop] at hu;have e:fV (loc j) b:=by rw [hl];exact jE.2 rfl
     simp only [AM.jf,if_pos e];exact mg (by rw [cell_of_row w b (off+k) vs.toArray t (0,0) hh];simpa using hu) (h1 u (List.mem_of_getElem? hu))
   |undef=>exact dU hs
   |any=>exact dU hs
   |pv x=>exact dU hs
   |row j=>exact dU hs
   |rp j sz i off=>exact dU hs
   |sub j sz lo hi=>exact dU hs
   |cp c=>exact dU hs
   |cl f caps=>exact dU hs
   |ag caps=>exact dU hs
   |two s b=>exact dU hs
  ·cases h
 ·cases h
theorem Cm (hR:Rel N w0 μ0 L μ loc st a w):∀{xs:List Operand} {st st':St} {μ:Mu},Rel N w0 μ0 L μ loc st a w→ou st xs=some st'→∃μ',μ.le μ'∧Rel N w0 μ0 L μ' loc st' a w:=by
 intro xs
 induction xs with
 |nil=>intro st st' μ h hp;simp only [ou,Option.some.injEq] at hp;subst hp;exact ⟨μ,Mu.le.refl _,h⟩
 |cons x xs ih=>
  intro st st' μ h hp;cases x with
  |tmp i=>
   simp only [ou] at hp;split at hp
   ·rename_i id off hi
    cases h1:st.ig id with
    |none=>rw [h1] at hp;cases hp
    |some st1=>
     rw [h1] at hp;obtain ⟨μ1,hle1,En⟩:=h.ig h1;obtain ⟨μ2,hle2,N4⟩:=ih En hp;exact ⟨μ2,hle1.trans hle2,N4⟩
   ·exact ih h hp
  |const v=>exact ih h hp
  |func f=>exact ih h hp
  |global g=>exact ih h hp
theorem dZ {o:Oper} {v:Value} {w':World} (hr:(execOp a.eval o).run P w= .ok (.value v) w') (hK:K (a.put o.dst v) w'):o.wp P a w K Q:=by
 unfold Oper.wp;rw [hr];exact hK
def j4 (N:Nat) (w0:World) (μ0:Mu) (L:kP) (st':St) (K:Act→World→Prop):Prop:=∀a' w' μ' loc',Rel N w0 μ0 L μ' loc' st' a' w'→K a' w'
theorem kF (hR:Rel N w0 μ0 L μ loc st a w) {o:Oper} {sv:SV} (hd:∀i,o.dst=some i→i<N) (hg:jd P μ loc o sv a w) (hK:j4 N w0 μ0 L (st.set o.dst sv) K):o.wp P a w K Q:=by
 obtain ⟨v,hr,hs⟩:=hg;exact dZ hr (hK _ _ _ _ (hR.set hd hs))
theorem rY (hR:Rel N w0 μ0 L μ loc st a w):∀b,w.heap.size≤b→∀j,μ b j=none:=fun b hb j=>by
 cases hj:μ b j with
 |none=>rfl
 |some v=>
  have:=su (hR.q8 b j v hj);omega
theorem lQ (w:World) (o:Obj):Below w.heap.size w (w.alloc o):=(Below.refl _ _).alloc (Nat.le_refl _) o
theorem Rel.made (hR:Rel N w0 μ0 L μ loc st a w) {d:Nat} (hd:d<N) {x:Obj} {val:Value} {o:Ob} {sv:SV} (hval:∀g,fV val g→g=w.heap.size)
  (cQ:gQ w0.heap.size L μ (tV loc d val) (w.alloc x) d o) (hs:cT μ (tV loc d val) sv val):
  Rel N w0 μ0 L μ (tV loc d val) ((st.new d o).set (some d) sv) (a.put (some d) val) (w.alloc x):=by
 have h1:=(hR.Ls (lQ w x)).new (id:=d) (val:=val) (o:=o) (.inl (Nat.lt_of_lt_of_le hd hR.small)) cQ (fun j oj hj hne g hg=>by
  have:=hval g hg;subst this;intro hb;have:=((hR.obs j oj hj).block _ hb).2.1
  omega)
 exact h1.set (fun i hi=>by injection hi with hi;omega) hs
theorem u6 {o:Oper} {t:TypeId} {d:Nat} {v:Value} {cells:List SV} (hR:Rel N w0 μ0 L μ loc st a w) (hd:d<N) (cG:o.dst=some d)
  (hr:(execOp a.eval o).run P w= .ok (.value (.pointer (some ⟨w.heap.size,0,none⟩))) (w.alloc (.cells v.cells t)))
  (hs:ep μ (tV loc d (.pointer (some ⟨w.heap.size,0,none⟩))) cells v.cells.toList) (h1:∀u∈v.cells.toList,u.oneCell'=true)
  (hK:j4 N w0 μ0 L ((st.new d (.box t cells)).set (some d) (.ptr d 0)) K):o.wp P a w K Q:=by
 refine dZ hr ?_;rw [cG];refine hK _ _ _ _ (hR.made hd (by simp [fV,bV,eq_comm]) ?_ ?_)
 ·refine ⟨w.heap.size,v.cells.toList,cA _ _ _, .inl hR.grown,?_,rY hR _ (Nat.le_refl _),hs,h1⟩
  rw [Array.toArray_toList];exact heap_alloc_new w _
 ·exact ⟨w.heap.size,cA _ _ _,rfl⟩
theorem KG (hR:Rel N w0 μ0 L μ loc st a w) {s:SV} {v:Value} (h:kL st s=true) (k:cT μ loc s v):v.oneCell'=true∧v.cells= #[v]:=by
 cases s with
 |undef=>simp [kL] at h
 |any=>simp [kL] at h
 |pv x=>
  cases x with
  |agg cs=>simp [kL] at h
  |fk cs=>simp [kL] at h
  |self n=>simp only [cT,rep] at k
  |qB=>simp only [cT,rep] at k;subst k;exact ⟨rfl,rfl⟩
  |bool b=>simp only [cT,rep] at k;subst k;exact ⟨rfl,rfl⟩
  |int q n=>simp only [cT,rep] at k;subst k;exact ⟨rfl,rfl⟩
  |str q=>simp only [cT,rep] at k;subst k;exact ⟨rfl,rfl⟩
  |bS sz xs=>simp only [cT,rep] at k;obtain ⟨A,c,rfl,_⟩:=k;exact ⟨rfl,rfl⟩
  |fn f caps=>simp only [cT,rep] at k;obtain ⟨vs,rfl,_⟩:=k;exact ⟨rfl,rfl⟩
  |ref cs=>simp only [cT,rep] at k;obtain ⟨b,off,vs,rfl,_⟩:=k;exact ⟨rfl,rfl⟩
  |mp ks es=>simp only [cT,rep] at k;rcases k with ⟨rfl,_⟩|⟨b,kv,ev,rfl,_⟩<;>exact ⟨rfl,rfl⟩
 |ptr id off=>obtain ⟨b,_,rfl⟩:=k;exact ⟨rfl,rfl⟩
 |row id=>
  simp only [kL] at h;split at h
  ·rename_i e sz xs cQ
   have hb:=iH (hR.obs id _ cQ);obtain ⟨vs,hown,_⟩:=hR.obs id _ cQ;have e:v=dL (loc id):=k;rw [hb] at e;rcases hown.2 with ⟨e1,_⟩|⟨g,cap,cur,e1,_⟩
   ·rw [e,e1];exact ⟨rfl,rfl⟩
   ·rw [e,e1];exact ⟨rfl,rfl⟩
  ·rename_i k' e' ks vs cQ
   obtain ⟨b,bL,clock,hl,_⟩:=hR.obs id _ cQ;have e:v=dL (loc id):=k;rw [e,hl];exact ⟨rfl,rfl⟩
  ·cases h
 |rp id sz i off=>obtain ⟨g,n,c,_,rfl⟩:=k;exact ⟨rfl,rfl⟩
 |sub id sz lo hi=>simp [kL] at h
 |two s b=>simp [kL] at h
 |cp cs=>obtain ⟨b,off,vs,rfl,_⟩:=k;exact ⟨rfl,rfl⟩
 |cl f caps=>obtain ⟨vs,rfl,_⟩:=k;exact ⟨rfl,rfl⟩
 |ag caps=>simp [kL] at h
theorem qk {loc:Nat→Value}:∀{caps:List j3} {vs:List Value},iC μ loc caps vs→ep μ loc (caps.map Ga) vs
 |[],vs,h=>h
 |c::cs,vs,⟨u,us,e,h1,h2⟩=>by
  refine ⟨u,us,e,?_,qk h2⟩;cases c with
  |v a=>exact h1
  |p id=>exact h1
  |r id=>exact h1
theorem L0 (hR:Rel N w0 μ0 L μ loc st a w) {t:TypeId} {len:Nat} {parts:Array (Nat×Operand)} {e:TypeId} {s:Nat} {xs:List (List AV)} (h:lW P t len parts.toList st=some (e,s,xs)):
  ∃vs:List Value,(Instr.buildSlice t len (parts.map fun p=>(p.1,a.eval p.2))).run P w= .ok (.slice (some ⟨w.heap.size,0,none⟩) len len) (w.alloc (.cells vs.toArray e))∧cD μ s xs vs∧xs.length=len∧len≤maxLen∧0<s:=by
 unfold lW at h;split at h
 ·rename_i e' s' hs
  obtain ⟨hu,inf,jZ,hsz⟩:=er hs;split at h
  ·rename_i z ps hz hps
   split at h
   ·rename_i hc
    obtain ⟨hlen,hpos,hzl,hnt⟩:=hc;cases hf:rN (fun i=>some (i *s',s')) (l8 z len) ps with
    |none=>simp [hf] at h
    |some cs=>
     simp [hf] at h;obtain ⟨rfl,rfl,rfl⟩:=h;obtain ⟨i,v,hi,hv,TG⟩:=jB (μ:=μ) hz;rw [jZ] at hi;injection hi with hi;subst hi
     obtain ⟨h1,h2⟩:=tP hR hps;have SJ:v.cells.size=s':=by have:=TG.length;simpa [hzl] using this
     obtain ⟨ws,hw,hr⟩:=Ak (us:=parts.toList.map fun p=>(p.1,a.eval p.2)) hf (vS TG len) (by simpa [List.map_map,Function.comp_def] using h1) (by simpa [List.map_map,Function.comp_def] using h2) (fun p hp x e=>by
      have:=List.all_eq_true.1 hnt p hp
      rw [e] at this;cases this)
     have rS:cs.length=len *s':=by
      have key:∀(ps:List (Nat×AV)) (cells cs:List AV),rN (fun i=>some (i *s',s')) cells ps=some cs→cs.length=cells.length:=by
       intro ps
       induction ps with
       |nil=>intro cells cs h;simp [rN] at h;rw [h]
       |cons p ps ih=>
        intro cells cs h;obtain ⟨j,x⟩:=p;simp only [rN] at h;split at h
        ·rename_i c6
         rw [ih _ _ h];simp only [List.length_append,List.length_take,List.length_drop];omega
        ·cases h
      rw [key _ _ _ hf,rf,hzl]
     refine ⟨ws,?_,rj len hr rS,tF _ _ _,by simp only [maxLen];have:len *1≤len *s':=Nat.mul_le_mul_left _ hpos;omega,hpos⟩;have Ys:(List.replicate len v.cells.toList).flatten.toArray=madeCells v.cells (len *s'):=by
      rw [←qx v.cells s' SJ hpos len]
     rw [Ys] at hw;by_cases h0:len *s'=0
     ·have hle:¬(len *s'>16777216):=by omega
      have e0:madeCells v.cells (len *s')= #[]:=by rw [h0];simp [madeCells,Array.range_zero']
      rw [e0] at hw;simp [Instr.buildSlice,run_underlying hu,sizeOf,typeInfo,jZ,hsz,h0,hw,newRow,Array.range_zero']
     ·have hle:¬(len *s'>16777216):=by omega
      simp only [madeCells] at hw;simp [Instr.buildSlice,run_underlying hu,sizeOf,typeInfo,jZ,hsz,h0,zeroValue,hv,hw,newRow,hlen]
   ·cases h
  ·cases h
 ·cases h
theorem Eg {o:Oper} {t:TypeId} {len:Nat} {parts:Array (Nat×Operand)} {d e s:Nat} {xs:List (List AV)} (hR:Rel N w0 μ0 L μ loc st a w) (hd:d<N) (cG:o.dst=some d) (ho:o.op= .buildSlice t len parts)
  (h:lW P t len parts.toList st=some (e,s,xs)) (hK:j4 N w0 μ0 L ((st.new d (.row e s xs)).set (some d) (.row d)) K):o.wp P a w K Q:=by
 obtain ⟨vs,hr,hrc,hxl,hml,hpos⟩:=L0 (P:=P) hR h;refine dZ (v:= .slice (some ⟨w.heap.size,0,none⟩) len len) (w':=w.alloc (.cells vs.toArray e)) (by unfold execOp;rw [ho];simp [hr]) ?_;rw [cG];refine hK _ _ _ _ (hR.made hd (by simp [fV,bV,eq_comm]) ?_ (HR rfl));refine ⟨vs,⟨by rw [c7 hrc], .inr ⟨w.heap.size,len,vs.toArray,?_,Nat.zero_le _,heap_alloc_new w _,by omega,hml,?_,?_⟩⟩,hrc,fun g hg=> ?_⟩
 ·rw [cA,hxl]
 ·simp [c7 hrc,hxl]
 ·rw [hxl,←hxl,←c7 hrc];simp
 ·rw [cA] at hg
  simp [fV,bV] at hg;subst hg;exact ⟨.inl hR.grown,rY hR _ (Nat.le_refl _)⟩
theorem Jt {o:Oper} {t:TypeId} {len:Nat} {parts:Array (Nat×Operand)} {e s:Nat} {xs:List (List AV)} (hR:Rel N w0 μ0 L μ loc st a w) (hd:∀i,o.dst=some i→i<N) (ho:o.op= .buildSlice t len parts)
  (h:lW P t len parts.toList st=some (e,s,xs)) (hK:j4 N w0 μ0 L (st.set o.dst (.pv (.bS s xs))) K):o.wp P a w K Q:=by
 obtain ⟨vs,hr,hrc,hxl,hml,hpos⟩:=L0 (P:=P) hR h;refine dZ (v:= .slice (some ⟨w.heap.size,0,none⟩) len len) (w':=w.alloc (.cells vs.toArray e)) (by unfold execOp;rw [ho];simp [hr]) ?_
 let μ':Mu:=fun b j=>if b=w.heap.size then vs[j]? else μ b j
 have hnone:=rY hR;have hle:μ.le μ':=fun b j v hv=>by
  by_cases hb:b=w.heap.size
  ·subst hb;rw [hnone _ (Nat.le_refl _) j] at hv;cases hv
  ·simpa [μ',hb] using hv
 have h1:=hR.grow (w':=w.alloc (.cells vs.toArray e)) (μ':=μ') ⟨hle,fun b j v hv=>by
   by_cases hb:b=w.heap.size
   ·exact .inr (by omega)
   ·exact .inl (by simpa [μ',hb] using hv)⟩ (fun b j v hv=>by
   by_cases hb:b=w.heap.size
   ·subst hb
    have JG:vs[j]? =some v:=by simpa [μ'] using hv
    exact mg (by simp [JG]) (kz hrc v (List.mem_of_getElem? JG))
   ·have JG:μ b j=some v:=by simpa [μ',hb] using hv
    exact hR.HD (lQ w _) b j v JG) (lQ w _)
 refine hK _ _ _ _ (h1.set hd ?_);show rep μ' (.bS s xs) _;rw [rep];refine ⟨_,len,by rw [hxl],by omega,hml, .inr ⟨w.heap.size,0,rfl,ri hrc hle fun j u hu=> ?_⟩⟩;simpa [μ'] using hu
theorem OR {o:Oper} {t:TypeId} {l c:Operand} {d e s:Nat} {kl kc:IntKind} {nl nc:Int} {z:List AV} {i:TypeInfo} (hR:Rel N w0 μ0 L μ loc st a w) (hd:d<N) (cG:o.dst=some d) (ho:o.op= .makeSlice t l c)
  (hs:isSlice P t=some (e,s)) (hl:(bg P 0 st l).bind eC =some (.int kl nl)) (hc:(bg P 0 st c).bind eC =some (.int kc nc)) (hz:zeroCells P e=some z) (hi:P.info? e=some i)
  (c6:0<s∧z.length=s∧0≤nl∧nl≤nc∧i.bytes *nc.toNat≤281474976710656∧nc≤9223372036854775807)
  (hK:j4 N w0 μ0 L ((st.new d (.row e s (List.replicate nl.toNat z))).set (some d) (.row d)) K):o.wp P a w K Q:=by
 obtain ⟨hpos,hzl,h0,hlc,hby,h63⟩:=c6;obtain ⟨hu,inf,jZ,hsz⟩:=er hs;rw [jZ] at hi;injection hi with hi;subst hi
 obtain ⟨i',v,hi',hv,TG⟩:=jB (μ:=μ) hz;rw [jZ] at hi';injection hi' with hi';subst hi'
 have SJ:v.cells.size=s:=by have:=TG.length;simpa [hzl] using this
 have hlv:=cR hR hl;have RY:=cR hR hc;rw [rep] at hlv RY;have hby':(inf.bytes:Int) *nc≤281474976710656:=by
  have e1:((inf.bytes *nc.toNat:Nat):Int)≤281474976710656:=by omega
  rw [Int.natCast_mul,Int.toNat_of_nonneg (by omega)] at e1;exact e1
 have hr:=run_make (P:=P) w t e inf v hu jZ hv kl kc nl nc h0 hlc hby' h63;refine dZ (v:= .slice (some ⟨w.heap.size,0,none⟩) nl.toNat nc.toNat) (w':=w.alloc (.cells (madeCells v.cells (nc.toNat *inf.size)) e)) (by unfold execOp;rw [ho];simp [hlv,RY,hr]) ?_;rw [cG];refine hK _ _ _ _ (hR.made hd (by simp [fV,bV,eq_comm]) ?_ (HR rfl));have hrc:=jQ (sz:=s) TG (by simpa using SJ) nl.toNat;refine ⟨_,⟨c7 hrc, .inr ⟨w.heap.size,nc.toNat,_,?_,Nat.zero_le _,heap_alloc_new w _,?_,?_,?_,?_⟩⟩,hrc,fun g hg=> ?_⟩
 ·rw [cA];simp
 ·simp;omega
 ·simp only [maxLen];omega
 ·rw [size_madeCells,hsz]
 ·rw [hsz,qx v.cells s SJ hpos]
  have:=FK v.cells.toList (l:=nl.toNat) (c:=nc.toNat) (by omega);simp only [Array.length_toList,SJ] at this;simp only [List.length_replicate];exact this
 ·rw [cA] at hg
  simp [fV,bV] at hg;subst hg;exact ⟨.inl hR.grown,rY hR _ (Nat.le_refl _)⟩
theorem Sn {o:Oper} {d e s:Nat} (hR:Rel N w0 μ0 L μ loc st a w) (hd:d<N) (cG:o.dst=some d) (ho:o.op= .assign (.const (.slice none 0 0)))
  (hK:j4 N w0 μ0 L ((st.new d (.row e s [])).set (some d) (.row d)) K):o.wp P a w K Q:=by
 refine dZ (v:= .slice none 0 0) (w':=w) (by unfold execOp;rw [ho];rfl) ?_;rw [cG];refine hK _ _ _ _ ((hR.new (id:=d) (val:= .slice none 0 0) (o:= .row e s []) (.inl (Nat.lt_of_lt_of_le hd hR.small)) ?_ (fun j oj hj hne g hg=>by simp [fV,bV] at hg)).set (fun i hi=>by injection hi with hi;omega) (HR rfl));refine ⟨[],⟨by simp, .inl ⟨cA _ _ _,rfl⟩⟩,rfl,fun g hg=> ?_⟩;rw [cA] at hg;simp [fV,bV] at hg
theorem tR {sz:Nat} {xs:List (List AV)} {vs:List Value} (h:cD μ sz xs vs) (n:Nat):cD μ sz (xs.take n) (vs.take (n *sz)):=by
 induction n generalizing xs vs with
 |zero=>simp [cD]
 |succ n ih=>
  cases xs with
  |nil=>simp only [cD] at h;subst h;simp [cD]
  |cons x xs=>
   obtain ⟨us,ws,rfl,h1,h2,h3⟩:=h;refine ⟨us,ws.take (n *sz),?_,h1,h2,ih h3⟩;rw [show (n+1) *sz=us.length+n *sz from by rw [Nat.add_mul,h2];omega,List.take_length_add_append]
theorem Cr {sz:Nat} {xs:List (List AV)} {vs:List Value} (h:cD μ sz xs vs) (n:Nat):cD μ sz (xs.drop n) (vs.drop (n *sz)):=by
 induction n generalizing xs vs with
 |zero=>simpa using h
 |succ n ih=>
  cases xs with
  |nil=>simp only [cD] at h;subst h;simp [cD]
  |cons x xs=>
   obtain ⟨us,ws,rfl,h1,h2,h3⟩:=h;rw [show (n+1) *sz=us.length+n *sz from by rw [Nat.add_mul,h2];omega,List.drop_length_add_append];exact ih h3
theorem Bg {t e ty:TypeId} {inf:TypeInfo} {v:Value} (hu:P.underlying t=some (.slice e)) (jZ:P.info? e=some inf) (hv:inf.zero=some v) {ad:Addr} {n c:Nat} (hn:0<n) {w':World} (hsc:(storeCells ad (Builtin.zeroCells v.cells n).toList).run P w= .ok () w'):
  (Builtin.clear_ #[t] ty #[.slice (some ad) n c]).run P w= .ok (.tuple #[]) w':=by
 obtain ⟨k,rfl⟩:∃k,n=k+1:=⟨n-1,by omega⟩
 simp [Builtin.clear_,run_underlying hu,zeroValue,typeInfo,jZ,hv,hsc]
theorem MY {o:Oper} {c:Call} {t e e':TypeId} {s id sz sz' lo hi:Nat} {x:Operand} {xs:List (List AV)} {z:List AV} (hR:Rel N w0 μ0 L μ loc st a w) (cG:o.dst=none) (ho:o.op= .call c) (hc:c.callee= .builtin .clear) (ha:c.args.toList=[x]) (ht:c.argTypes.toList=[t])
  (hs:isSlice P t=some (e,s)) (hx:bg P t st x=some (.sub id sz lo hi)) (cQ:st.ob id=some (.row e' sz' xs)) (hz:zeroCells P e=some z) (c6:s=sz∧sz=sz'∧z.length=sz∧hi≤xs.length∧e=e'∧0<sz)
  (hK:j4 N w0 μ0 L { st with ob:=put st.ob id (some (.row e' sz' (xs.take lo++List.replicate (hi-lo) z++xs.drop hi))) } K):o.wp P a w K Q:=by
 obtain ⟨rfl,rfl,hzl,hhi,rfl,hpos⟩:=c6;obtain ⟨callee,⟨args⟩,⟨argTypes⟩⟩:=c;simp only at hc ha ht;subst hc;subst ha;subst ht;obtain ⟨hu,inf,jZ,hsz⟩:=er hs;obtain ⟨A,n,cp,A',c',mu,hlo,hhn,hcc,oV,_,hg⟩:=aX hR hx;obtain ⟨vs,hown,hrc,hm⟩:=hR.obs id _ cQ;by_cases hlt:lo<hi
 ·obtain ⟨g,rfl,rfl⟩:=hg hlt
  obtain ⟨cap,cur,Yr,hheap,hnc,hcm,hcs,pL⟩:∃cap cur,loc id= .slice (some ⟨g,0,none⟩) xs.length cap∧w.heap[g]? =some (.cells cur e (0,0))∧xs.length≤cap∧cap≤maxLen∧cur.size=cap *s∧cur.toList.take (xs.length *s)=vs:=by
   rcases hown.2 with ⟨_,e2⟩|⟨g',cap,cur,e1,_,h2,h3,h4,h5,h6⟩
   ·omega
   ·rw [mu] at e1
    simp only [Value.slice.injEq,Option.some.injEq,Addr.mk.injEq,and_true] at e1;obtain ⟨rfl,rfl,rfl⟩:=e1;exact ⟨cp,cur,mu,h2,h3,h4,h5,h6⟩
  obtain ⟨i',v,hi',hv,TG⟩:=jB (μ:=μ) hz;rw [jZ] at hi';injection hi' with hi';subst hi'
  have SJ:v.cells.size=s:=by have:=TG.length;simpa [hzl] using this
  have hzs:(Builtin.zeroCells v.cells (hi-lo)).toList=(List.replicate (hi-lo) v.cells.toList).flatten:=by
   rw [←qx v.cells s SJ hpos (hi-lo)];simp [Builtin.zeroCells,madeCells,SJ]
  have PB:=jQ (sz:=s) TG (by simpa using SJ) (hi-lo);have wV:((List.replicate (hi-lo) v.cells.toList).flatten).length=(hi-lo) *s:=by have:=c7 PB;simpa using this
  have hvl:=c7 hrc;have rS:xs.length *s≤cur.size:=by rw [hcs];exact Nat.mul_le_mul_right _ hnc
  have hmul:lo *s+(hi-lo) *s=hi *s:=by rw [←Nat.add_mul];congr 1;omega
  have hhis:hi *s≤xs.length *s:=Nat.mul_le_mul_right _ hhi;have hsc:=run_storeCells_at P g (lo *s) e (List.replicate (hi-lo) v.cells.toList).flatten 0 cur w hheap (by rw [wV];omega) (kz PB);simp only [Nat.add_zero,wV] at hsc;have GO:=mz (mz (tR hrc lo) PB) (Cr hrc hi);have VN:(xs.take lo++List.replicate (hi-lo) z++xs.drop hi).length=xs.length:=by simp;omega
  have hrun:=Bg (P:=P) (ty:=o.type) (c:=c') (n:=hi-lo) hu jZ hv (by omega) (by rw [hzs];exact hsc)
  refine dZ (v:= .tuple #[]) (w':=w.setRow g (cur.toList.take (lo *s)++(List.replicate (hi-lo) v.cells.toList).flatten++cur.toList.drop (lo *s+(hi-lo) *s)).toArray) (by
   unfold execOp;rw [ho];simp only [resolve,invoke,builtin,Sem.run_bind,Sem.run_pure,Result.andThen_ok,oV,List.map_toArray,List.map_cons,List.map_nil]
   simp only [hrun,Result.andThen_ok]) ?_
  rw [cG];refine hK _ _ _ _ (hR.write cQ (g:=g) (by rw [mu];exact fE.2 rfl) (fun k hk=>setRow_other w g k _ hk) rfl rfl rfl (by simp) ?_);refine ⟨_,⟨?_, .inr ⟨g,cap,_,?_,Nat.zero_le _,setRow_heap w g cur _ e _ hheap,?_,hcm,?_,?_⟩⟩,GO,fun g' hg'=>hm g' hg'⟩
  ·rw [c7 GO]
  ·rw [VN];exact Yr
  ·rw [VN];exact hnc
  ·simp only [List.size_toArray,List.length_append,List.length_take,List.length_drop,Array.length_toList,wV];omega
  ·rw [VN,←pL]
   have hb:hi *s≤cur.toList.length:=by simp;omega
   have ha:lo *s≤hi *s:=Nat.mul_le_mul_right _ (by omega);rw [hmul,List.take_take,Nat.min_eq_left (by omega),List.drop_take];have hl1:(cur.toList.take (lo *s)++(List.replicate (hi-lo) v.cells.toList).flatten).length=hi *s:=by rw [List.length_append,List.length_take,wV];omega
   generalize hq:cur.toList.take (lo *s)++(List.replicate (hi-lo) v.cells.toList).flatten=q at hl1;show List.take (xs.length *s) (q++List.drop (hi *s) cur.toList)=q++_;rw [List.take_append,List.take_of_length_le (by omega),hl1]
 ·have h0:hi-lo=0:=by omega
  have e0:xs.take lo++List.replicate (hi-lo) z++xs.drop hi=xs:=by
   rw [h0,show lo=hi from by omega];simp
  rw [e0] at hK
  refine dZ (v:= .tuple #[]) (w':=w) (by
   unfold execOp;rw [ho];simp [resolve,invoke,builtin,oV,h0,Builtin.clear_,run_underlying hu]
   cases A'<;>simp) ?_
  rw [cG];refine hK _ _ μ loc ?_;have:put st.ob id (some (.row e s xs))=st.ob:=by
   funext i
   by_cases e:id=i
   ·subst e;rw [bO,cQ]
   ·rw [aV _ _ e]
  rw [this];exact hR
theorem M5 {o:Oper} {t:TypeId} {x y:Operand} {sa sv:SV} (hR:Rel N w0 μ0 L μ loc st a w) (cG:o.dst=none) (ho:o.op= .store t x y)
  (hx:bg P 0 st x=some sa) (hy:bg P t st y=some sv) (h:storeAt P t st sa sv=some st') (hK:j4 N w0 μ0 L st' K):o.wp P a w K Q:=by
 have WY:=aX hR hx;have Ci:=aX hR hy;have fin:∀(ad:Addr) (w':World),a.eval x= .pointer (some ad)→(storeVar t ad (a.eval y)).run P w= .ok () w'→Rel N w0 μ0 L μ loc st' a w'→o.wp P a w K Q:=fun ad w' e hr rQ=>by
  unfold Oper.wp execOp;rw [ho];simp only [Instr.storeAt,e,Instr.sureAddr,Sem.run_bind,Sem.run_pure,Result.andThen_ok,hr,Oper.upon,cG,Act.put];exact hK _ _ _ _ rQ
 unfold storeAt at h;split at h
 ·rename_i id off
  obtain ⟨b,hl,WY⟩:=WY;split at h
  ·rename_i bt cells n cQ hsz
   obtain ⟨b',vs,hl',hnF,hheap,pH,hss,h1⟩:=hR.obs id _ cQ;rw [hl] at hl';simp only [Value.pointer.injEq,Option.some.injEq,Addr.mk.injEq,and_true] at hl';subst hl';have hlen:=iZ hss;have Vf:∀(us:List Value) (sus:List SV),(a.eval y).cells.toList=us→us.length=n→off+n≤vs.length→(∀u∈us,u.oneCell'=true)→ep μ loc sus us→
     st'={ st with ob:=put st.ob id (some (.box bt (cells.take off++sus++cells.drop (off+n)))) }→o.wp P a w K Q:=by
    intro us sus wW wV hle hone hsus hst;have hsc:=run_storeCells_at P b off bt us 0 vs.toArray w hheap (by simp;omega) hone;simp only [Nat.add_zero] at hsc
    refine fin ⟨b,off,none⟩ _ WY (by
     have:(a.eval y).cells.size=n:=by rw [←wV,←wW];simp
     simp only [storeVar,Sem.run_bind,jV hsz,Result.andThen_ok,this,ne_eq,not_true_eq_false,if_false,Sem.run_pure,wW]
     exact hsc) ?_
    rw [hst];refine hR.write cQ (g:=b) (by rw [hl];exact jE.2 rfl) (fun k hk=>setRow_other w b k _ hk) rfl rfl rfl (by simp) ?_;refine ⟨b,vs.take off++us++vs.drop (off+n),hl,hnF,?_,pH,?_,?_⟩
    ·have:=setRow_heap w b vs.toArray (vs.toArray.toList.take off++us++vs.toArray.toList.drop (off+us.length)).toArray bt (0,0) hheap
     simpa [wV] using this
    ·exact iY (iY (uC hss off) hsus) (uB hss (off+n))
    ·intro u hu
     simp only [List.mem_append] at hu;rcases hu with (hu|hu)|hu
     ·exact h1 u (List.mem_of_mem_take hu)
     ·exact hone u hu
     ·exact h1 u (List.mem_of_mem_drop hu)
   split at h
   ·rename_i cs
    split at h
    ·rename_i c6
     injection h with h
     obtain ⟨us,e,hall,hone⟩:=Ci;have hs:=qk hall;exact Vf us (cs.map Ga) (by rw [e];rfl) (by rw [iZ hs,List.length_map];exact c6.1) (by omega) hone hs h.symm
    ·cases h
   ·rename_i cs
    split at h
    ·rename_i c6
     injection h with h
     have Nl:=Ci;simp only [cT,rep] at Nl;obtain ⟨us,e,hall,hone⟩:=Nl;exact Vf us (cs.map .pv) (by rw [e];rfl) (by rw [lH hall];exact c6.1) (by omega) hone (mc hall) h.symm
    ·cases h
   ·split at h
    ·rename_i c6
     injection h with h
     obtain ⟨ho1,hc1⟩:=KG hR c6.2.2 Ci;refine Vf [a.eval y] [sv] (by rw [hc1]) (by simp [c6.1]) (by omega) (by simpa using ho1) ⟨_,[],rfl,Ci,rfl⟩ ?_;rw [←h,c6.1,List.set_eq_take_append_cons_drop,if_pos c6.2.1];simp
    ·cases h
  ·cases h
 ·rename_i id sz i off
  obtain ⟨g,n',cp,hl,WY⟩:=WY;split at h
  ·rename_i e sz' xs n v cQ hsz
   split at h
   ·rename_i c hg
    split at h
    ·rename_i c6
     obtain ⟨rfl,hvl,hle,hnt⟩:=c6;injection h with h
     obtain ⟨vs,hown,hrc,hm⟩:=hR.obs id _ cQ;have hil:i<xs.length:=(List.getElem?_eq_some_iff.1 hg).1;obtain ⟨cap,cur,mu,hheap,hnc,hcm,hcs,pL⟩:∃cap cur,loc id= .slice (some ⟨g,0,none⟩) xs.length cap∧w.heap[g]? =some (.cells cur e (0,0))∧xs.length≤cap∧cap≤maxLen∧cur.size=cap *sz∧cur.toList.take (xs.length *sz)=vs:=by
      rcases hown.2 with ⟨_,e2⟩|⟨g',cap,cur,e1,_,h2,h3,h4,h5,h6⟩
      ·omega
      ·rw [hl] at e1
       simp only [Value.slice.injEq,Option.some.injEq,Addr.mk.injEq,and_true] at e1;obtain ⟨rfl,rfl,rfl⟩:=e1;exact ⟨cp,cur,hl,h2,h3,h4,h5,h6⟩
     have hyc:gy μ v.cells (a.eval y).cells.toList:=Dz (show rep μ v (a.eval y) from Ci) (fun z e=>by rw [e] at hnt;cases hnt);have wV:(a.eval y).cells.toList.length=n:=by rw [hyc.length];exact hvl
     have key:∀(xs:List (List AV)) (vs:List Value) (i:Nat) (c:List AV),cD μ sz xs vs→xs[i]? =some c→off+n≤c.length→
       cD μ sz (xs.set i (c.take off++v.cells++c.drop (off+n))) (vs.take (i *sz+off)++(a.eval y).cells.toList++vs.drop (i *sz+off+n))∧i *sz+off+n≤vs.length:=by
      intro xs
      induction xs with
      |nil=>intro vs i c _ h;simp at h
      |cons x xs ih=>
       intro vs i c hrc hx hle;obtain ⟨us,ws,rfl,k1,k2,k3⟩:=hrc;cases i with
       |zero=>
        simp at hx;subst hx;have hxl:=k1.length;refine ⟨?_,by simp;omega⟩;refine ⟨us.take off++(a.eval y).cells.toList++us.drop (off+n),ws,?_,((k1.take off).append hyc).append (k1.drop (off+n)),?_,k3⟩
        ·simp only [Nat.zero_mul,Nat.zero_add]
         rw [List.take_append_of_le_length (by omega),List.drop_append_of_le_length (by omega)];simp [List.append_assoc]
        ·simp only [List.length_append,List.length_take,List.length_drop,wV];omega
       |succ i=>
        simp at hx;obtain ⟨r1,r2⟩:=ih ws i c k3 hx hle;refine ⟨?_,by simp [Nat.add_mul,k2];omega⟩;refine ⟨us,ws.take (i *sz+off)++(a.eval y).cells.toList++ws.drop (i *sz+off+n),?_,k1,k2,r1⟩
        rw [show (i+1) *sz+off=us.length+(i *sz+off) from by rw [Nat.add_mul,k2];omega,List.take_length_add_append,
         show us.length+(i *sz+off)+n=us.length+(i *sz+off+n) from by omega,List.drop_length_add_append]
        simp [List.append_assoc]
     obtain ⟨GO,hle'⟩:=key xs vs i c hrc hg hle;have hvl':=c7 hrc;have rS:xs.length *sz≤cur.size:=by rw [hcs];exact Nat.mul_le_mul_right _ hnc
     have hsc:=run_storeCells_at P g (i *sz+off) e (a.eval y).cells.toList 0 cur w hheap (by rw [wV];omega) hyc.2;simp only [Nat.add_zero,wV] at hsc
     refine fin ⟨g,i *sz+off,none⟩ _ WY (by
      have:(a.eval y).cells.size=n:=by simpa using wV
      simp only [storeVar,Sem.run_bind,jV hsz,Result.andThen_ok,this,ne_eq,not_true_eq_false,if_false,Sem.run_pure]
      exact hsc) ?_
     rw [←h];refine hR.write cQ (g:=g) (by rw [hl];exact fE.2 rfl) (fun k hk=>setRow_other w g k _ hk) rfl rfl rfl (by simp) ?_;refine ⟨_,⟨?_, .inr ⟨g,cap,_,?_,Nat.zero_le _,setRow_heap w g cur _ e _ hheap,?_,hcm,?_,?_⟩⟩,GO,fun g' hg'=>hm g' hg'⟩
     ·rw [c7 GO]
     ·simpa using mu
     ·simpa using hnc
     ·simp only [List.size_toArray,List.length_append,List.length_take,List.length_drop,Array.length_toList,wV];omega
     ·simp only [List.length_set]
      have hvl2:vs.length≤cur.toList.length:=by simp;omega
      rw [show vs.take (i *sz+off)=cur.toList.take (i *sz+off) from by rw [←pL,List.take_take,Nat.min_eq_left (by omega)],
       show vs.drop (i *sz+off+n)=(cur.toList.drop (i *sz+off+n)).take (xs.length *sz-(i *sz+off+n)) from by rw [←pL,List.drop_take]]
      rw [List.take_append,List.take_of_length_le (by simp [wV];omega)]
      congr 2
      simp only [List.length_append,List.length_take,Array.length_toList,wV];omega
    ·cases h
   ·cases h
  ·cases h
 ·cases h
theorem zx (t ty e:TypeId) (i:TypeInfo) (ht:P.underlying t=some (.slice e)) (hi:P.info? e=some i) (v:Value) (n:Nat) (xs:List Value) (size:Nat) (hown:w.ownsRow 0 e size v n xs) (c:Nat):
  (Builtin.append_ #[t,t] ty #[v, .slice none 0 c]).run P w= .ok v w:=by
 rcases hown.2 with ⟨rfl,rfl⟩|⟨g,cap,cur,rfl,_,_,hnc,_⟩
 ·simp [Builtin.append_,run_underlying ht,sizeOf,typeInfo,hi,Builtin.lenOf,Builtin.firstCells]
 ·simp [Builtin.append_,run_underlying ht,sizeOf,typeInfo,hi,Builtin.lenOf,Builtin.firstCells,hnc,storeCells]
theorem Jj {o:Oper} {x y:Operand} {t e:TypeId} {d sz id:Nat} {sy:SV} {xs ys:List (List AV)} {i:TypeInfo} (hR:Rel N w0 μ0 L μ loc st a w) (hd:d<N) (cG:o.dst=some d)
  (ho:o.op= .call { callee:= .builtin .append,args:= #[x,y],argTypes:= #[t,t] }) (hs:isSlice P t=some (e,sz)) (hx:bg P t st x=some (.row id)) (hy:bg P t st y=some sy)
  (cQ:st.ob id=some (.row e sz xs)) (hel:elems st sy=some (sz,ys)) (hi:P.info? e=some i) (hpos:0<sz) (hby:(xs.length+ys.length) *i.bytes≤140737488355328) (hlen:xs.length+ys.length≤4611686018427387904)
  (hz:i.zero.map (fun z=>z.cells.size)=some sz) (hid:id<10000∨20000≤id) (hK:j4 N w0 μ0 L ((st.new id (.row e sz (xs++ys))).set (some d) (.row id)) K):o.wp P a w K Q:=by
 obtain ⟨hu,inf,jZ,hsz⟩:=er hs;rw [jZ] at hi;injection hi with hi;subst hi
 obtain ⟨z,hz0,hzs⟩:∃z,inf.zero=some z∧z.cells.size=sz:=by
  cases hzz:inf.zero with
  |none=>simp [hzz] at hz
  |some z=>simp [hzz] at hz;exact ⟨z,rfl,hz⟩
 have oV:a.eval x=loc id:=(aX hR hx:a.eval x=dL (loc id)).trans (iH (hR.obs id _ cQ));have Ci:=aX hR hy;obtain ⟨vs,hown,hrc,hm⟩:=hR.obs id _ cQ;obtain ⟨A,c,Nl,us,wW,hsrc⟩:=rJ hR hel Ci;have wV:=c7 wW;obtain ⟨v',w',hrun,TM,hgrow,hblk⟩:∃v' w',(Builtin.append_ #[t,t] o.type #[loc id, .slice A ys.length c]).run P w= .ok v' w'∧w'.ownsRow 0 e sz v' (xs.length+ys.length) (vs++us)∧w.grownBy w' (loc id).ownBlock∧
   (v'.ownBlock=(loc id).ownBlock∨v'.ownBlock=some w.heap.size):=by
  cases A with
  |none=>
   have h0:ys.length=0:=by
    rcases hsrc with h0|⟨ad,h,_⟩
    ·exact h0
    ·cases h
   have GR:us=[]:=List.eq_nil_of_length_eq_zero (by rw [wV,h0];simp);subst GR;rw [h0];exact ⟨loc id,w,zx t o.type e inf hu jZ (loc id) _ vs sz hown c,by simpa using hown,⟨rfl,rfl,rfl,Nat.le_refl _,fun _ _ _=>rfl⟩, .inl rfl⟩
  |some ad=>
   have hcells:∀j u,us[j]? =some u→w.cell? (ad.add j)=some u:=by
    rcases hsrc with h0|⟨ad',h,hc⟩
    ·have GR:us=[]:=List.eq_nil_of_length_eq_zero (by rw [wV,h0];simp)
     subst GR;intro j u hu;simp at hu
    ·injection h with h;subst h;exact hc
   obtain ⟨v',w',h1,h2,h3,_,h5⟩:=run_append_own_at (P:=P) w 0 t o.type e inf z sz inf.bytes hu jZ hz0 hsz rfl hzs hpos (loc id) xs.length vs hown ad ys.length c us wV hcells (kz wW) (by simp only [maxLen];omega) hby (Nat.zero_le _);exact ⟨v',w',h1,h2,h3,h5⟩
 have hbo:∀v:Value,(∃A n c,v= .slice A n c)→v.ownBlock=bV v:=by
  rintro v ⟨A,n,c,rfl⟩;cases A<;>rfl
 have mu:∃A n c,loc id= .slice A n c:=by
  rcases hown.2 with ⟨e1,_⟩|⟨g,cap,cur,e1,_⟩
  ·exact ⟨_,_,_,e1⟩
  ·exact ⟨_,_,_,e1⟩
 have JG:∃A n c,v'= .slice A n c:=by
  rcases TM.2 with ⟨e1,_⟩|⟨g,cap,cur,e1,_⟩
  ·exact ⟨_,_,_,e1⟩
  ·exact ⟨_,_,_,e1⟩
 rw [hbo _ mu] at hgrow hblk;rw [hbo _ JG] at hblk;have hok:=hR.obs id _ cQ;refine dZ (v:=v') (w':=w') (by unfold execOp;rw [ho];simp [resolve,invoke,builtin,oV,Nl,hrun]) ?_;rw [cG]
 have h1:=(hR.drop id).world (w':=w') (Mu.le.refl _) (fun _ _ _ h=> .inl h) (fun b j v h=>by
   have hc:=hR.q8 b j v h;have hlt:=su hc;have hne:some b≠bV (loc id):=fun e=>by have:=(hok.block b (.inl e.symm)).2.2 j;rw [this] at h;cases h
   rw [fN (hgrow.block b hlt hne)];exact hc) (fun k ok hk b hb=>by
   by_cases e':id=k
   ·subst e';simp [bO] at hk
   ·simp only [aV _ _ e'] at hk
    obtain ⟨_,hlt,pH⟩:=(hR.obs k ok hk).block b hb;have hne:some b≠bV (loc id):=fun e=>hR.apart id k _ ok cQ hk e' b (.inl e.symm) hb
    exact ⟨hgrow.block b hlt hne,pH⟩) (fun b hb hl=>by
   refine hgrow.block b (Nat.lt_of_lt_of_le hb hR.grown) (fun e=> ?_);rcases (hok.block b (.inl e.symm)).1 with h|⟨v,hv,h⟩
   ·omega
   ·exact hl ⟨id,v,hv,h⟩) hgrow.os hgrow.tape hgrow.output hgrow.size (fun _=>NO hrun)
 have h2:=h1.new (id:=id) (val:=v') (o:= .row e sz (xs++ys)) hid (by
   refine ⟨vs++us,?_,mz hrc wW,fun g hg=> ?_⟩
   ·rw [cA,List.length_append];exact TM
   ·rw [cA] at hg
    replace hg:bV v'=some g:=by obtain ⟨A',n',c',rfl⟩:=JG;exact fE.1 hg
    rcases hblk with hb|hb
    ·rw [hg] at hb
     have:=hok.block g (.inl hb.symm);exact ⟨this.1,this.2.2⟩
    ·rw [hg] at hb
     injection hb with hb
     subst hb
     exact ⟨.inl hR.grown,rY hR _ (Nat.le_refl _)⟩) (fun j oj hj hne g hg=>by
   have hj':st.ob j=some oj:=by
    by_cases e':id=j
    ·exact absurd e'.symm hne
    ·simpa only [aV _ _ e'] using hj
   replace hg:bV v'=some g:=by obtain ⟨A',n',c',rfl⟩:=JG;exact fE.1 hg
   rcases hblk with hb|hb
   ·rw [hg] at hb
    exact hR.apart id j _ oj cQ hj' (fun e=>hne e.symm) g (.inl hb.symm)
   ·rw [hg] at hb
    injection hb with hb
    subst hb;intro hbj;have:=((hR.obs j oj hj').block _ hbj).2.1
    omega)
 have heq:St.new { st with ob:=put st.ob id none } id (.row e sz (xs++ys))=St.new st id (.row e sz (xs++ys)):=by
  simp only [St.new,St.bR]
  congr 1
  funext k
  by_cases e':id=k
  ·subst e';simp [bO]
  ·simp only [aV _ _ e']
 rw [heq] at h2;exact hK _ _ _ _ (h2.set (fun i hi=>by injection hi with hi;omega) (HR (by obtain ⟨A',n',c',rfl⟩:=JG;rfl)))
theorem yQ {t k e:TypeId} {r:Option Operand} (hR:Rel N w0 μ0 L μ loc st a w) (ht:P.underlying t=some (.map k e)) (hr:ng P st r=true):(Instr.makeMap t (r.map a.eval)).run P w= .ok (.map (some w.heap.size)) (w.alloc (.map #[] 0)):=by
 have hrun:(Instr.makeMap t (r.map a.eval)).run P w= .ok (.map (some w.heap.size)) (w.alloc (.map #[] 0)):=by
  cases r with
  |none=>rfl
  |some x=>
   simp only [ng] at hr;cases hx:(bg P 0 st x).bind eC with
   |none=>simp [hx] at hr
   |some y=>
    cases y with
    |int q n=>
     have:=cR hR hx;rw [rep] at this;have e:(Instr.makeMap t (some (.int q n))).run P w=(Instr.makeMap t none).run P w:=by simp [Instr.makeMap,run_underlying ht,asInt,asIntOf]
     simp only [Option.map_some,this];rw [e];rfl
    |_=>simp [hx] at hr
 exact hrun
theorem Gh {o:Oper} {t k e:TypeId} {r:Option Operand} {d:Nat} (hR:Rel N w0 μ0 L μ loc st a w) (hd:d<N) (cG:o.dst=some d) (ho:o.op= .makeMap t r) (ht:P.underlying t=some (.map k e))
  (hr:ng P st r=true) (hK:j4 N w0 μ0 L ((st.new d (.mp k e [] [])).set (some d) (.row d)) K):o.wp P a w K Q:=by
 have hrun:=yQ (P:=P) hR ht hr;refine dZ (v:= .map (some w.heap.size)) (w':=w.alloc (.map #[] 0)) (by unfold execOp;rw [ho];simp [hrun]) ?_;rw [cG];refine hK _ _ _ _ (hR.made hd (val:= .map (some w.heap.size)) (fun g hg=>mJ.1 hg) ?_ ?_)
 ·refine ⟨w.heap.size, #[],0,cA _ _ _, .inl hR.grown,(by show (w.heap.push _)[w.heap.size]? =_;simp),rY hR _ (Nat.le_refl _),by simp [bB],by simp [bB],⟨by simp,by simp⟩⟩
 ·exact HR rfl
theorem JX {key x:AV} {kv xv:Value} (h:nB key x=some true) (hk:rep μ key kv) (hx:rep μ x xv):kv=xv∧key=x:=by
 unfold nB at h;split at h
 ·rename_i s t
  simp only [Option.some.injEq,beq_iff_eq] at h;subst h;rw [rep] at hk hx;exact ⟨hk.trans hx.symm,rfl⟩
 ·rename_i q s q' t
  split at h
  ·rename_i e;subst e
   simp only [Option.some.injEq,beq_iff_eq] at h;subst h;rw [rep] at hk hx;exact ⟨hk.trans hx.symm,rfl⟩
  ·cases h
 ·rename_i s t
  simp only [Option.some.injEq,beq_iff_eq] at h;subst h;rw [rep] at hk hx;exact ⟨hk.trans hx.symm,rfl⟩
 ·cases h
theorem vt {kv:Value} {key:AV} (hk:rep μ key kv) {kt:TypeId} (hok:eT P kt key=true) (w:World):(Instr.keyThatStays kv kv).run P w= .ok kv w:=by
 have hs:∀n,Instr.sameBits n kv kv=true:=by
  intro n;unfold eT at hok;split at hok
  ·rw [rep] at hk;subst hk;cases n<;>simp [Instr.sameBits,KS]
  ·rw [rep] at hk;subst hk;cases n<;>simp [Instr.sameBits]
  ·rw [rep] at hk;subst hk;cases n<;>simp [Instr.sameBits]
  ·cases hok
 simp only [Instr.keyThatStays,hs 10000];simp
theorem KL {xs:List AV} {vs:List Value} (h:bB μ xs vs) {i:Nat} {x:AV} {v:Value} (hx:rep μ x v):bB μ (xs.set i x) (vs.set i v):=by
 induction xs generalizing vs i with
 |nil=>rw [bB] at h;subst h;simp [bB]
 |cons y xs ih=>
  rw [bB] at h;obtain ⟨u,us,rfl,h1,h2⟩:=h;cases i with
  |zero=>simpa using bD hx h2
  |succ i=>simpa using bD h1 (ih h2)
theorem tL {t kt et:TypeId} {b:Nat} {bL:Array MapEntry} {clock:Nat} {key:AV} {kv x:Value} {ks:List AV} {r:Option Nat} (hu:P.underlying t=some (.map kt et)) (hh:w.heap[b]? =some (.map bL clock)) (hkr:rep μ key kv) (hok:eT P kt key=true)
  (h1:bB μ ks (bL.toList.map (·.key))) (hf:gv key ks=some r):
  ∃eP clock',(Instr.mapUpdate t (.map (some b)) kv x).run P w= .ok () { w with heap:=w.heap.setIfInBounds b (.map eP clock') }∧
   (r=none→bB μ (ks++[key]) (eP.toList.map (·.key))∧eP.toList.map (·.val)=bL.toList.map (·.val)++[x])∧
   (∀j,r=some j→bB μ ks (eP.toList.map (·.key))∧eP.toList.map (·.val)=(bL.toList.map (·.val)).set j x∧j<bL.size)∧(MC bL clock→MC eP clock'):=by
 have B6:=iK hkr hok h1 hf w;cases r with
 |none=>
  refine ⟨bL.push { key:=kv,val:=x,born:=clock },clock+1,?_,fun _=>⟨?_,by simp⟩,(fun j e=>by cases e),fun hB=>⟨fun y hy=> ?_,?_⟩⟩
  ·simp only [] at B6
   simp [Instr.mapUpdate,run_underlying hu,dY hh,eA hkr hok,B6,setObj,Sem.run,hh]
  ·simpa using jy h1 (bD hkr b8)
  ·rw [Array.toList_push,List.mem_append] at hy
   rcases hy with hy|hy
   ·have:=hB.1 y hy;omega
   ·rw [List.mem_singleton] at hy;subst hy;exact Nat.lt_succ_self _
  ·rw [Array.toList_push,List.map_append,List.nodup_append]
   refine ⟨hB.2,by simp,fun a ha b hb=> ?_⟩;obtain ⟨y,hy,rfl⟩:=List.mem_map.1 ha;simp only [List.map_cons,List.map_nil,List.mem_singleton] at hb;subst hb;have:=hB.1 y hy;omega
 |some j=>
  obtain ⟨e,he,hrun,y,hy,hyk⟩:=B6;obtain ⟨yv,Ci,hyr⟩:=nK h1 hy;have he':bL[j]? =some e:=by simpa using he
  have Nl:yv=e.key:=by
   simp [he'] at Ci;exact Ci.symm
  subst Nl;obtain ⟨hsame,_⟩:=JX hyk hkr hyr;have vh:(bL.modify j fun e=>{ e with key:=kv,val:=x }).toList.map (·.born)=bL.toList.map (·.born):=by
   apply List.ext_getElem?;intro i;simp only [List.getElem?_map,Array.getElem?_toList,Array.getElem?_modify];by_cases e1:j=i
   ·subst e1;simp [he']
   ·simp [e1]
  refine ⟨bL.modify j fun e=>{ e with key:=kv,val:=x },clock,?_,(fun e=>by cases e),(fun j' ej=> ?_),fun hB=>⟨fun y hy=> ?_,by rw [vh];exact hB.2⟩⟩
  rotate_right
  ·have hm:y.born∈bL.toList.map (·.born):=by rw [←vh];exact List.mem_map.2 ⟨y,hy,rfl⟩
   obtain ⟨z,hz,e⟩:=List.mem_map.1 hm;rw [←e];exact hB.1 z hz
  ·simp [Instr.mapUpdate,run_underlying hu,dY hh,eA hkr hok,hrun,he',←hsame,vt hkr hok,setObj,Sem.run,hh]
  ·injection ej with ej;subst ej
   refine ⟨?_,?_,(Array.getElem?_eq_some_iff.1 he').1⟩
   ·have:(bL.modify j fun e=>{ e with key:=kv,val:=x }).toList.map (·.key)=bL.toList.map (·.key):=by
     apply List.ext_getElem?;intro i;simp only [List.getElem?_map,Array.getElem?_toList,Array.getElem?_modify];by_cases e1:j=i
     ·subst e1;simp [he',hsame]
     ·simp [e1]
    rw [this];exact h1
   ·apply List.ext_getElem?
    intro i;simp only [List.getElem?_map,Array.getElem?_toList,Array.getElem?_modify,List.getElem?_set];by_cases e1:j=i
    ·subst e1;simp [he']
     exact (Array.getElem?_eq_some_iff.1 he').1
    ·simp [e1]
theorem u7 {o:Oper} {t:TypeId} {m k x:Operand} (hR:Rel N w0 μ0 L μ loc st a w) (cG:o.dst=none) (ho:o.op= .mapUpdate t m k x∨o.op= .insert t m k x) (h:pV P st t m k x=some st')
  (hK:j4 N w0 μ0 L st' K):o.wp P a w K Q:=by
 unfold pV at h;split at h
 ·rename_i kt et hu
  split at h
  ·rename_i st1 PD
   obtain ⟨μ1,En⟩:∃μ1,Rel N w0 μ0 L μ1 loc st1 a w:=by
    unfold Kj at PD;split at PD
    ·injection PD with e;subst e;exact ⟨μ,hR⟩
    ·obtain ⟨μ',_,h'⟩:=hR.cL PD;exact ⟨μ',h'⟩
    ·cases PD
   split at h
   ·rename_i id key v hm hk hx
    split at h
    ·rename_i k' e' ks vs cQ
     cases hc:(eT P kt key&&v.AT) with
     |false=>simp [hc] at h
     |true=>
      simp only [hc,cond_true] at h;simp only [Bool.and_eq_true] at hc;split at h
      ·rename_i ks' vs' hput
       injection h with h
       subst h;obtain ⟨b,bL,clock,hl,hown,hh,pH,h1,h2,hB⟩:=En.obs id _ cQ;have mD:a.eval m= .map (some b):=by
        have:=aX En hm;simp only [cT] at this;rw [this,hl];rfl
       have hkr:=cR En hk;have hxr:=cR En hx;have VW:∃eP clock',(Instr.mapUpdate t (a.eval m) (a.eval k) (a.eval x)).run P w= .ok () { w with heap:=w.heap.setIfInBounds b (.map eP clock') }∧bB μ1 ks' (eP.toList.map (·.key))∧bB μ1 vs' (eP.toList.map (·.val))∧MC eP clock':=by
        unfold qz at hput;cases hf:gv key ks with
        |none=>simp [hf] at hput
        |some r=>
         obtain ⟨eP,clock',hrun,q1,q2,q3⟩:=tL (x:=a.eval x) hu hh hkr hc.1 h1 hf;refine ⟨eP,clock',by rw [mD];exact hrun,?_⟩;cases r with
         |none=>
          simp only [hf,Option.some.injEq,Prod.mk.injEq] at hput;obtain ⟨rfl,rfl⟩:=hput;obtain ⟨k1,k2⟩:=q1 rfl;exact ⟨k1,by rw [k2];exact jy h2 (bD hxr b8),q3 hB⟩
         |some j=>
          simp only [hf,Option.some.injEq,Prod.mk.injEq] at hput;obtain ⟨rfl,rfl⟩:=hput;obtain ⟨k1,k2,_⟩:=q2 j rfl;exact ⟨k1,by rw [k2];exact KL h2 hxr,q3 hB⟩
       obtain ⟨eP,clock',hrun,r1,r2,r3⟩:=VW;have hlt:=(Array.getElem?_eq_some_iff.1 hh).1
       have JH:=En.write cQ (g:=b) (by rw [hl];exact mJ.2 rfl) (w':={ w with heap:=w.heap.setIfInBounds b (.map eP clock') }) (o':= .mp k' e' ks' vs') (fun b' hb'=>by
         simp only [];rw [Array.getElem?_setIfInBounds_ne (fun e=>hb' e.symm)]) rfl rfl rfl (by simp) ⟨b,eP,clock',hl,hown,by simp [hlt],pH,r1,r2,r3⟩
       have:((execOp a.eval o).run P w)= .ok .skip { w with heap:=w.heap.setIfInBounds b (.map eP clock') }:=by
        unfold execOp;rcases ho with ho|ho<;>rw [ho]<;>simp [hrun]
       unfold Oper.wp;rw [this];simp only [Oper.upon,cG];exact hK _ _ _ _ JH
      ·cases h
    ·cases h
   ·cases h
  ·cases h
 ·cases h
theorem vR {xs:List AV} {vs:List Value} (h:bB μ xs vs) (i:Nat):bB μ (xs.eraseIdx i) (vs.eraseIdx i):=by
 induction xs generalizing vs i with
 |nil=>rw [bB] at h;subst h;simp [bB]
 |cons x xs ih=>
  rw [bB] at h;obtain ⟨u,us,rfl,h1,h2⟩:=h;cases i with
  |zero=>simpa using h2
  |succ i=>simpa using bD h1 (ih h2 i)
theorem xk {α β:Type} (f:α→β) (l:List α) (j:Nat):(l.eraseIdx j).map f=(l.map f).eraseIdx j:=by
 induction l generalizing j with
 |nil=>rfl
 |cons x l ih=>
  cases j with
  |zero=>rfl
  |succ j=>simp [ih]
theorem Jk {o:Oper} {c:Call} {t:TypeId} {ts:List TypeId} {m k:Operand} (hR:Rel N w0 μ0 L μ loc st a w) (cG:o.dst=none) (ho:o.op= .call c) (hc:c.callee= .builtin .delete) (ha:c.args.toList=[m,k]) (ht:c.argTypes.toList=t::ts) (h:pR P st t m k=some st')
  (hK:j4 N w0 μ0 L st' K):o.wp P a w K Q:=by
 obtain ⟨callee,⟨args⟩,⟨argTypes⟩⟩:=c;simp only at hc ha ht;subst hc;subst ha;subst ht;unfold pR at h;split at h
 ·rename_i kt et hu
  split at h
  ·rename_i id key hm hk
   split at h
   ·rename_i k' e' ks vs cQ
    cases hok:eT P kt key with
    |false=>simp [hok] at h
    |true=>
     simp only [hok,cond_true] at h;split at h
     ·rename_i ks' vs' Nf
      injection h with h
      subst h;obtain ⟨b,bL,clock,hl,hown,hh,pH,h1,h2,hB⟩:=hR.obs id _ cQ;have mD:a.eval m= .map (some b):=by
       have:=aX hR hm;simp only [cT] at this;rw [this,hl];rfl
      have hkr:=cR hR hk;have VW:∃eP,(Builtin.delete_ (t::ts).toArray o.type #[a.eval m,a.eval k]).run P w= .ok (.tuple #[]) { w with heap:=w.heap.setIfInBounds b (.map eP clock) }∧bB μ ks' (eP.toList.map (·.key))∧bB μ vs' (eP.toList.map (·.val))∧MC eP clock:=by
       unfold Ks at Nf;cases hf:gv key ks with
       |none=>simp [hf] at Nf
       |some r=>
        have B6:=iK hkr hok h1 hf w;cases r with
        |none=>
         simp only [hf,Option.some.injEq,Prod.mk.injEq] at Nf;obtain ⟨rfl,rfl⟩:=Nf;simp only [] at B6;exact ⟨bL,by simp [Builtin.delete_,mD,run_underlying hu,dY hh,eA hkr hok,B6,setObj,Sem.run,hh],h1,h2,hB⟩
        |some j=>
         simp only [hf,Option.some.injEq,Prod.mk.injEq] at Nf;obtain ⟨rfl,rfl⟩:=Nf;obtain ⟨e,he,hrun,_⟩:=B6;refine ⟨bL.eraseIdxIfInBounds j,by simp [Builtin.delete_,mD,run_underlying hu,dY hh,eA hkr hok,hrun,setObj,Sem.run,hh],?_,?_,⟨fun y hy=>hB.1 y (by rw [Array.toList_eraseIdxIfInBounds] at hy;exact (List.eraseIdx_sublist _ _).subset hy),by rw [Array.toList_eraseIdxIfInBounds];exact hB.2.sublist ((List.eraseIdx_sublist _ _).map _)⟩⟩
         ·have:=vR h1 j
          rw [←xk] at this;rw [Array.toList_eraseIdxIfInBounds];exact this
         ·have:=vR h2 j
          rw [←xk] at this;rw [Array.toList_eraseIdxIfInBounds];exact this
      obtain ⟨eP,hrun,r1,r2,r3⟩:=VW;have hlt:=(Array.getElem?_eq_some_iff.1 hh).1
      have JH:=hR.write cQ (g:=b) (by rw [hl];exact mJ.2 rfl) (w':={ w with heap:=w.heap.setIfInBounds b (.map eP clock) }) (o':= .mp k' e' ks' vs') (fun b' hb'=>by
        simp only [];rw [Array.getElem?_setIfInBounds_ne (fun e=>hb' e.symm)]) rfl rfl rfl (by simp) ⟨b,eP,clock,hl,hown,by simp [hlt],pH,r1,r2,r3⟩
      refine dZ (v:= .tuple #[]) (w':={ w with heap:=w.heap.setIfInBounds b (.map eP clock) }) (by
       unfold execOp;rw [ho];simp only [List.map_toArray,List.map_cons,List.map_nil,resolve,invoke,builtin];have YA:(Builtin.delete_ { toList:=t::ts } o.type #[a.eval m,a.eval k]).run P w=_:=hrun
       simp [YA]) ?_
      rw [cG];exact hK _ _ _ _ JH
     ·cases h
   ·cases h
  ·cases h
 ·cases h
theorem qI {id:Nat} {val:Value} {us:Array Value} (tq:loc id= .tuple us) (hbase:dL val=dL (loc id)):∀{cs:List j3} {vs:List Value},iC μ loc cs vs→iC μ (tV loc id val) cs vs
 |[],vs,h=>h
 |c::cs,vs,⟨u,us',e,h1,h2⟩=>by
  refine ⟨u,us',e,?_,qI tq hbase h2⟩;cases c with
  |v a=>exact h1
  |p j=>
   obtain ⟨b,k1,k2⟩:=h1;have hne:j≠id:=fun e=>by subst e;rw [tq] at k1;cases k1
   exact ⟨b,by rw [cm _ _ hne];exact k1,k2⟩
  |r j=>
   show u=dL (tV loc id val j);by_cases e:j=id
   ·subst e;rw [cA,hbase];exact h1
   ·rw [cm _ _ e];exact h1
theorem Dx {id:Nat} {val:Value} {us:Array Value} (tq:loc id= .tuple us) (hbase:dL val=dL (loc id)) {s:SV} {v:Value} (k:cT μ loc s v):cT μ (tV loc id val) s v:=by
 induction s generalizing v with
 |undef=>exact k
 |any=>exact k
 |pv y=>exact k
 |cp cs=>exact k
 |ptr j off=>
  obtain ⟨b,h1,h2⟩:=k;have hne:j≠id:=fun e=>by subst e;rw [tq] at h1;cases h1
  exact ⟨b,by rw [cm _ _ hne];exact h1,h2⟩
 |row j=>
  show v=dL (tV loc id val j);by_cases e:j=id
  ·subst e;rw [cA,hbase];exact k
  ·rw [cm _ _ e];exact k
 |rp j sz i off=>
  obtain ⟨g,n,c,h1,h2⟩:=k;have hne:j≠id:=fun e=>by subst e;rw [tq] at h1;cases h1
  exact ⟨g,n,c,by rw [cm _ _ hne];exact h1,h2⟩
 |sub j sz lo hi=>
  obtain ⟨A,n,c,A',c',h1,h2⟩:=k;have hne:j≠id:=fun e=>by subst e;rw [tq] at h1;cases h1
  exact ⟨A,n,c,A',c',by rw [cm _ _ hne];exact h1,h2⟩
 |cl f caps=>obtain ⟨vs,e,hc⟩:=k;exact ⟨vs,e,qI tq hbase hc⟩
 |ag caps=>obtain ⟨vs,e,hc,h1⟩:=k;exact ⟨vs,e,qI tq hbase hc,h1⟩
 |two s b ih=>obtain ⟨y,e,k⟩:=k;exact ⟨y,e,ih k⟩
theorem Bd {id:Nat} {val:Value} {us:Array Value} (tq:loc id= .tuple us) (hbase:dL val=dL (loc id)):∀{cs:List SV} {vs:List Value},ep μ loc cs vs→ep μ (tV loc id val) cs vs
 |[],vs,h=>h
 |c::cs,vs,⟨u,us',e,h1,h2⟩=>⟨u,us',e,Dx tq hbase h1,Bd tq hbase h2⟩
theorem NA {n0:Nat} {i id:Nat} {val:Value} {us:Array Value} (tq:loc id= .tuple us) (hbase:dL val=dL (loc id)) {o:Ob} (h:gQ n0 L μ loc w i o) (hne:i≠id):gQ n0 L μ (tV loc id val) w i o:=by
 cases o with
 |box t cells=>
  obtain ⟨b,vs,hl,ho,hh,hm,hs,h1⟩:=h;exact ⟨b,vs,by rw [cm _ _ hne];exact hl,ho,hh,hm,Bd tq hbase hs,h1⟩
 |row e sz xs=>
  obtain ⟨vs,hown,hrc,hm⟩:=h;refine ⟨vs,by rw [cm _ _ hne];exact hown,hrc,fun g hg=>hm g (by rw [cm _ _ hne] at hg;exact hg)⟩
 |mp k e ks es=>
  obtain ⟨b,bL,clock,hl,rest⟩:=h;exact ⟨b,bL,clock,by rw [cm _ _ hne];exact hl,rest⟩
 |mr k e sz ks vs=>
  obtain ⟨b,bL,clock,us,hl,rest⟩:=h;exact ⟨b,bL,clock,us,by rw [cm _ _ hne];exact hl,rest⟩
 |it s pos=>
  obtain ⟨b,hl,rest⟩:=h;exact ⟨b,by rw [cm _ _ hne];exact hl,rest⟩
theorem Rel.Uw (hR:Rel N w0 μ0 L μ loc st a w) {id:Nat} {o o':Ob} {val:Value} {us:Array Value} (ho:st.ob id=some o) (tq:loc id= .tuple us) (hbase:dL val=dL (loc id)) (hsmall:id<10000) {g:Nat} (hg:fV (loc id) g) {w':World}
  (hch:∀b,b≠g→w'.heap[b]? =w.heap[b]?) (hos:w'.os=w.os) (GQ:w'.tape=w.tape) (hout:w'.output=w.output) (hsz:w'.heap.size=w.heap.size)
  (cQ:gQ w0.heap.size L μ (tV loc id val) w' id o') (hap:∀j oj,st.ob j=some oj→j≠id→∀q,fV val q→¬fV (loc j) q) (Pp:L.q→w.drawn≤w'.drawn:=by exact fun _=>Nat.le_refl _):Rel N w0 μ0 L μ (tV loc id val) { st with ob:=put st.ob id (some o') } a w':=by
 obtain ⟨hown,hlt,pH⟩:=(hR.obs id o ho).block g hg
 have h1:=(hR.drop id).world (w':=w') (Mu.le.refl _) (fun _ _ _ h=> .inl h) (fun b j v h=>by
   have hne:b≠g:=fun e=>by subst e;rw [pH j] at h;cases h
   have:=hR.q8 b j v h
   rw [fN (hch b hne)];exact this) (fun i oi hi b hb=>by
   by_cases e:id=i
   ·subst e;simp [bO] at hi
   ·simp only [aV _ _ e] at hi
    have hne:b≠g:=fun e'=>by subst e';exact hR.apart id i o oi ho hi e b hg hb
    exact ⟨hch b hne,((hR.obs i oi hi).block b hb).2.2⟩) (fun b hb hl=>by
   refine hch b (fun e=> ?_);subst e;rcases hown with h|⟨v,hv,h⟩
   ·omega
   ·exact hl ⟨id,v,hv,h⟩) hos GQ hout (by omega) Pp
 refine ⟨h1.small,h1.names,?_,h1.size,h1.defers,?_,h1.q8,h1.base,?_,?_,h1.keep,h1.os,h1.tape,h1.output,h1.grown,h1.drawn⟩
 ·intro i v hv hi
  have hne:i≠id:=fun e=>by subst e;rw [hR.names i hsmall] at hv;cases hv
  rw [cm _ _ hne];exact hR.fix i v hv hi
 ·intro i s hi
  obtain ⟨v,hv,hr⟩:=h1.env i s hi;exact ⟨v,hv,Dx tq hbase hr⟩
 ·intro i oi hi
  by_cases e:id=i
  ·subst e;simp only [bO,Option.some.injEq] at hi;subst hi;exact cQ
  ·simp only [aV _ _ e] at hi
   exact NA tq hbase (h1.obs i oi (by simpa only [aV _ _ e] using hi)) (Ne.symm e)
 ·intro i j oi oj hi hj hij q hq
  by_cases ei:id=i
  ·subst ei
   simp only [aV _ _ hij] at hj;rw [cA] at hq;rw [cm _ _ (Ne.symm hij)];exact hap j oj hj (Ne.symm hij) q hq
  ·simp only [aV _ _ ei] at hi
   rw [cm _ _ (Ne.symm ei)] at hq;by_cases ej:id=j
   ·subst ej
    rw [cA];exact fun JC=>hap i oi hi hij q JC hq
   ·simp only [aV _ _ ej] at hj
    rw [cm _ _ (Ne.symm ej)];exact hR.apart i j oi oj hi hj hij q hq
theorem Rel.Td (hR:Rel N w0 μ0 L μ loc st a w) (id:Nat):Rel N w0 μ0 L μ loc (st.bR id) a w:=by
 have hu:tV loc id (loc id)=loc:=funext fun i=>by
  by_cases e:i=id
  ·subst e;exact cA _ _ _
  ·exact cm _ _ e
 have hsub:∀i oi,(st.bR id).ob i=some oi→i≠id∧∃oj,st.ob i=some oj∧oi=oj.bR id:=fun i oi h=>by
  by_cases e:id=i
  ·subst e;simp [St.bR,bO] at h
  ·simp only [St.bR,aV _ _ e,Option.map_eq_some_iff] at h
   obtain ⟨oj,h1,h2⟩:=h;exact ⟨Ne.symm e,oj,h1,h2.symm⟩
 refine ⟨hR.small,hR.names,hR.fix,hR.size,hR.defers,?_,hR.q8,hR.base,?_,?_,hR.keep,hR.os,hR.tape,hR.output,hR.grown,hR.drawn⟩
 ·intro i s hi
  simp only [St.bR,Option.map_eq_some_iff] at hi;obtain ⟨s',h1,rfl⟩:=hi;obtain ⟨v,hv,hr⟩:=hR.env i s' h1;exact ⟨v,hv,dU hr⟩
 ·intro i oi hi
  obtain ⟨hne,oj,h1,rfl⟩:=hsub i oi hi;have:=uy (x:=loc id) (hR.obs i oj h1) hne
  rwa [hu] at this
 ·intro i j oi oj hi hj hij
  obtain ⟨_,N6,h1,_⟩:=hsub i oi hi;obtain ⟨_,Rv,h2,_⟩:=hsub j oj hj;exact hR.apart i j N6 Rv h1 h2 hij
theorem rX {t:TypeId} {m k:Operand} {et:TypeId} {id:Nat} {key:AV} {k' e:TypeId} {sz:Nat} {ks:List AV} {vs:List (Option (List (List AV)))} (h:Dc P st t m k=some (et,id,key,k',e,sz,ks,vs)):
  ∃kt,P.underlying t=some (.map kt et)∧bg P t st m=some (.row id)∧(bg P kt st k).bind eC =some key∧st.ob id=some (.mr k' e sz ks vs)∧eT P kt key=true∧id<10000:=by
 unfold Dc at h;split at h
 ·rename_i kt et' hu
  split at h
  ·rename_i id' key' hm hk
   split at h
   ·rename_i k2 e2 sz2 ks2 vs2 cQ
    cases hb:(eT P kt key'&&Nat.blt id' 10000) with
    |false=>rw [hb] at h;cases h
    |true=>
     simp only [hb,cond_true,Option.some.injEq,Prod.mk.injEq] at h;obtain ⟨rfl,rfl,rfl,rfl,rfl,rfl,rfl,rfl⟩:=h;rw [Bool.and_eq_true] at hb;exact ⟨kt,hu,hm,hk,cQ,hb.1,by simpa [Nat.blt_eq] using hb.2⟩
   ·cases h
  ·cases h
 ·cases h
theorem II {t:TypeId} {s:Nat} (h:jc P t=some (.bS s [])) (w:World):(zeroValue t).run P w= .ok (.slice none 0 0) w:=by
 unfold jc at h;split at h
 ·rename_i i hi
  split at h
  ·cases hz:lJ P (mH P 8 t) _<;>rw [hz] at h<;>cases h
  ·rename_i v hne hz
   unfold ofConst at h;split at h
   ·cases h
   ·cases h
   ·cases h
   ·simp [zeroValue,typeInfo,hi,hz]
   ·cases h
   ·split at h<;>cases h
   ·cases h
  ·cases h
 ·cases h
theorem MZ {o:Oper} {t:TypeId} {m k:Operand} {d:Nat} (hR:Rel N w0 μ0 L μ loc st a w) (hd:d<N) (cG:o.dst=some d) (ho:o.op= .lookup t m k false) (h:Dd P st t m k d=some st') (hK:j4 N w0 μ0 L st' K):o.wp P a w K Q:=by
 unfold Dd at h;split at h
 ·rename_i et id key k' e sz ks vs hmk
  obtain ⟨kt,hu,hm,hk,cQ,hok,hid⟩:=rX hmk;cases FN:Nat.beq id d with
  |true=>rw [FN] at h;cases h
  |false=>
  simp only [FN,cond_false] at h;have hne:id≠d:=fun e=>by subst e;simp [Nat.beq_refl] at FN
  obtain ⟨b,bL,clock,us,hl,hown,hh,pH,h1,h2,h3,h4,h5,h6⟩:=hR.obs id _ cQ;have mD:a.eval m= .map (some b):=by
   have:a.eval m=dL (loc id):=aX hR hm;rw [this,hl];rfl
  have hkr:=cR hR hk;have hd':d<10000:=Nat.lt_of_lt_of_le hd hR.small;split at h
  ·rename_i i hf
   have B6:=iK hkr hok h1 hf w;obtain ⟨ent,he,hrun,_⟩:=B6;split at h
   ·rename_i xs hvi
    injection h with h;subst h
    obtain ⟨u,cells,k1,k2,k3,k4,k5⟩:=h4 i xs hvi;have hval:u=ent.val:=by
     have he':bL[i]? =some ent:=by simpa using he
     simp [he'] at k2;exact k2.symm
    refine dZ (v:=ent.val) (w':=w) (by
     unfold execOp;rw [ho]
     simp [mD,Instr.lookup,run_underlying hu,dY hh,eA hkr hok,hrun]) ?_
    rw [cG,←hval];have hil:i<us.length:=(List.getElem?_eq_some_iff.1 k1).1
    have r1:=hR.Uw (id:=id) (o':= .mr k' e sz ks (vs.set i none)) (val:= .tuple (.map (some b)::us.set i undef).toArray) (g:=b) (w':=w) cQ hl (by rw [hl];rfl) hid (by rw [hl];exact iM.2 (.inl rfl)) (fun _ _=>rfl) rfl rfl rfl rfl (by
      refine ⟨b,bL,clock,us.set i undef,cA _ _ _,hown,hh,pH,h1,by simp [h2],by simp [h3],fun q ys hq=> ?_,fun q hq=> ?_,fun q q' x y hx hy hqq g hg=> ?_⟩
      ·have hqi:q≠i:=fun e=>by subst e;simp [List.getElem?_set] at hq
       rw [List.getElem?_set_ne (Ne.symm hqi)] at hq;obtain ⟨u',cells',m1,m2⟩:=h4 q ys hq;exact ⟨u',cells',by rw [List.getElem?_set_ne (Ne.symm hqi)];exact m1,m2⟩
      ·by_cases hqi:q=i
       ·subst hqi;simp [List.getElem?_set,hil]
       ·rw [List.getElem?_set_ne (Ne.symm hqi)] at hq
        rw [List.getElem?_set_ne (Ne.symm hqi)];exact h5 q hq
      ·have und:∀(q:Nat) (z:Value),(us.set i undef)[q]? =some z→∀g,bV z=some g→us[q]? =some z:=fun q z hz g hg=>by
        by_cases hqi:q=i
        ·rw [hqi,List.getElem?_set_self hil] at hz
         injection hz with hz
         subst hz;simp [undef,bV] at hg
        ·rwa [List.getElem?_set_ne (Ne.symm hqi)] at hz
       intro hg'
       exact h6 q q' x y (und q x hx g hg) (und q' y hy g hg') hqq g hg hg') (fun j oj hj hji q hq=>by
      refine fun JD=>hR.apart id j _ oj cQ hj (Ne.symm hji) q ?_ JD
      rw [hl];rcases iM.1 hq with rfl|⟨z,hz,TR⟩
      ·exact iM.2 (.inl rfl)
      ·rcases List.mem_or_eq_of_mem_set hz with hz|rfl
       ·exact iM.2 (.inr ⟨z,hz,TR⟩)
       ·simp [undef,bV] at TR)
    have YB:dL u=u:=by rcases k3.2 with ⟨e1,_⟩|⟨g,cap,cur,e1,_⟩<;>rw [e1]<;>rfl
    have hin:∀g,fV u g→bV u=some g:=fun g hg=>by
     rcases k3.2 with ⟨e1,_⟩|⟨g',cap,cur,e1,_⟩<;>rw [e1] at hg⊢<;>exact fE.1 hg
    have r2:=r1.new (id:=d) (val:=u) (o:= .row e sz xs) (.inl hd') (by
      refine ⟨cells,by rw [cA];exact k3,k4,fun g hg=> ?_⟩;rw [cA] at hg;obtain ⟨m1,m2⟩:=k5 g (hin g hg)
      exact ⟨.inl m1,m2⟩) (fun j oj hj hjd g hg=>by
      have Ep:=hin g hg;by_cases hji:id=j
      ·subst hji
       rw [cA];intro hb;rcases iM.1 hb with rfl|⟨z,hz,TR⟩
       ·
        rcases k3.2 with ⟨e1,_⟩|⟨g',cap,cur,e1,_,hg',_⟩
        ·rw [e1] at Ep;simp [bV] at Ep
        ·rw [e1] at Ep;simp [bV] at Ep;subst Ep;rw [hh] at hg';cases hg'
       ·obtain ⟨q,hq,eq⟩:=List.mem_iff_getElem.1 hz
        have JC:(us.set i undef)[q]? =some z:=by rw [List.getElem?_eq_getElem hq,eq]
        by_cases hqi:q=i
        ·subst hqi
         simp [List.getElem?_set,hil] at JC;subst JC;simp [undef,bV] at TR
        ·rw [List.getElem?_set_ne (Ne.symm hqi)] at JC
         exact h6 q i z u JC k1 hqi g TR Ep
      ·simp only [aV _ _ hji] at hj
       rw [cm _ _ (Ne.symm hji)]
       exact hR.apart id j _ oj cQ hj hji g (by rw [hl];exact iM.2 (.inr ⟨u,List.mem_of_getElem? k1,Ep⟩)))
    exact hK _ _ _ _ (r2.set (fun i hi=>by injection hi with hi;omega) (HR YB))
   ·cases h
  ·rename_i hf
   split at h
   ·rename_i s0 e' s hz hs
    split at h
    ·rename_i c6
     obtain ⟨rfl,rfl,hpos⟩:=c6;injection h with h;subst h
     have B6:=iK hkr hok h1 hf w;have VP:=II hz w
     refine dZ (v:= .slice none 0 0) (w':=w) (by
      unfold execOp;rw [ho]
      simp [mD,Instr.lookup,run_underlying hu,dY hh,eA hkr hok,B6,VP]) ?_
     rw [cG];refine hK _ _ _ _ ((hR.new (id:=d) (val:= .slice none 0 0) (o:= .row e s []) (.inl hd') ?_ (fun j oj hj hne g hg=>by simp [fV,bV] at hg)).set (fun i hi=>by injection hi with hi;omega) (HR rfl));refine ⟨[],⟨by simp, .inl ⟨cA _ _ _,rfl⟩⟩,rfl,fun g hg=> ?_⟩;rw [cA] at hg;simp [fV,bV] at hg
    ·cases h
   ·cases h
  ·cases h
 ·cases h
theorem Lp {o:Oper} {t kt et:TypeId} {m k x:Operand} {id:Nat} {key:AV} {k' e:TypeId} {sz:Nat} {ks ks':List AV} {vs vs':List (Option (List (List AV)))} {xs:List (List AV)} {cells:List Value}
  (hR:Rel N w0 μ0 L μ loc st a w) (cG:o.dst=none) (ho:o.op= .mapUpdate t m k x∨o.op= .insert t m k x) (hu:P.underlying t=some (.map kt et)) (mD:a.eval m=dL (loc id)) (hkr:rep μ key (a.eval k)) (hok:eT P kt key=true)
  (cQ:st.ob id=some (.mr k' e sz ks vs)) (hid:id<10000) (hput:qz key (some xs) ks vs=some (ks',vs')) (hrow:w.ownsRow 0 e sz (a.eval x) xs.length cells) (hrc:cD μ sz xs cells)
  (hg:∀g,bV (a.eval x)=some g→w0.heap.size≤g∧∀j,μ g j=none) (hfree:∀j oj,st.ob j=some oj→∀g,bV (a.eval x)=some g→¬fV (loc j) g)
  (hK:j4 N w0 μ0 L { st with ob:=put st.ob id (some (.mr k' e sz ks' vs')) } K):o.wp P a w K Q:=by
 obtain ⟨b,bL,clock,us,hl,hown,hh,pH,h1,h2,h3,h4,h5,h6⟩:=hR.obs id _ cQ;have hmv':a.eval m= .map (some b):=by rw [mD,hl];rfl
 cases hf:gv key ks with
 |none=>simp [qz,hf] at hput
 |some r=>
 obtain ⟨eP,clock',hrun,q1,q2,_⟩:=tL (x:=a.eval x) hu hh hkr hok h1 hf;have hlt:=(Array.getElem?_eq_some_iff.1 hh).1;have YB:∀g,fV (a.eval x) g→bV (a.eval x)=some g:=fun g hg=>by
  rcases hrow.2 with ⟨e1,_⟩|⟨g',cap,cur,e1,_⟩<;>rw [e1] at hg⊢<;>exact fE.1 hg
 have Lw:bV (a.eval x)≠some b:=fun e=>by
  rcases hrow.2 with ⟨e1,_⟩|⟨g',cap,cur,e1,_,hg',_⟩
  ·rw [e1] at e;simp [bV] at e
  ·rw [e1] at e;simp [bV] at e;subst e;rw [hh] at hg';cases hg'
 have WR:∀u∈us,∀g,bV u=some g→bV (a.eval x)≠some g:=fun u hu g Ep Ym=>hfree id _ cQ g Ym (by rw [hl];exact iM.2 (.inr ⟨u,hu,Ep⟩))
 have other:∀(u:Value) (cs:List Value) (ys:List (List AV)),w.ownsRow 0 e sz u ys.length cs→bV u≠some b→World.ownsRow { w with heap:=w.heap.setIfInBounds b (.map eP clock') } 0 e sz u ys.length cs:=fun u cs ys hu hub=>
  qH hu (fun g hg=>by
   have:b≠g:=fun e=>hub (by rw [e];exact hg)
   simp only [];rw [Array.getElem?_setIfInBounds_ne this])
 have hub:∀u∈us,bV u≠some b:=fun u hu e=>by
  obtain ⟨i,ys,m1,m2⟩:=Rr h2 h5 hu e;obtain ⟨u',cells',n1,n2,n3,_⟩:=h4 i ys m1;rw [m2] at n1;injection n1 with n1;subst n1
  rcases n3.2 with ⟨e1,_⟩|⟨g',cap,cur,e1,_,hg',_⟩
  ·rw [e1] at e;simp [bV] at e
  ·rw [e1] at e;simp [bV] at e;subst e;rw [hh] at hg';cases hg'
 have fin:∀us',(∀u∈us',u∈us∨u=a.eval x)→gQ w0.heap.size L μ (tV loc id (.tuple (.map (some b)::us').toArray)) { w with heap:=w.heap.setIfInBounds b (.map eP clock') } id (.mr k' e sz ks' vs')→o.wp P a w K Q:=fun us' wW pJ=>by
  have r1:=hR.Uw (id:=id) (val:= .tuple (.map (some b)::us').toArray) (g:=b) (w':={ w with heap:=w.heap.setIfInBounds b (.map eP clock') }) cQ hl (by rw [hl];rfl) hid (by rw [hl];exact iM.2 (.inl rfl))
   (fun b' hb'=>by simp only [];rw [Array.getElem?_setIfInBounds_ne (fun e=>hb' e.symm)]) rfl rfl rfl (by simp) pJ (fun j oj hj hji q hq=>by
    rcases iM.1 hq with rfl|⟨z,hz,TR⟩
    ·exact fun JD=>hR.apart id j _ oj cQ hj (Ne.symm hji) q (by rw [hl];exact iM.2 (.inl rfl)) JD
    ·rcases wW z hz with hz|rfl
     ·exact fun JD=>hR.apart id j _ oj cQ hj (Ne.symm hji) q (by rw [hl];exact iM.2 (.inr ⟨z,hz,TR⟩)) JD
     ·exact hfree j oj hj q TR)
  have:((execOp a.eval o).run P w)= .ok .skip { w with heap:=w.heap.setIfInBounds b (.map eP clock') }:=by
   unfold execOp;rcases ho with ho|ho<;>rw [ho]<;>simp [hmv',hrun]
  unfold Oper.wp;rw [this];simp only [Oper.upon,cG];exact hK _ _ _ _ r1
 cases r with
 |none=>
  simp only [qz,hf,Option.some.injEq,Prod.mk.injEq] at hput;obtain ⟨rfl,rfl⟩:=hput;obtain ⟨c1,c2⟩:=q1 rfl;have hsize:eP.size=bL.size+1:=by have:=congrArg List.length c2;simpa using this
  refine fin (us++[a.eval x]) (fun u hu=>by simpa using hu) ⟨b,eP,clock',us++[a.eval x],cA _ _ _,hown,by simp [hlt],pH,c1,by simp [h2],by simp [hsize,h3],fun i ys hi=> ?_,fun i hi=> ?_,fun i j u v hu hv hij g Ep SE=> ?_⟩
  ·by_cases hil:i<vs.length
   ·rw [List.getElem?_append_left hil] at hi
    obtain ⟨u,cs,n1,n2,n3,n4,n5⟩:=h4 i ys hi;exact ⟨u,cs,by rw [List.getElem?_append_left (by omega)];exact n1,by rw [c2,List.getElem?_append_left (by simp;omega)];exact n2,other u cs ys n3 (hub u (List.mem_of_getElem? n1)),n4,n5⟩
   ·rw [List.getElem?_append_right (by omega)] at hi
    have Yn:i-vs.length=0:=by
     have:=(List.getElem?_eq_some_iff.1 hi).1;simp at this;omega
    rw [Yn] at hi;simp at hi;subst hi;refine ⟨a.eval x,cells,?_,?_,other _ _ _ hrow Lw,hrc,hg⟩
    ·rw [List.getElem?_append_right (by omega),h2,Yn];rfl
    ·rw [c2,List.getElem?_append_right (by simp;omega)];simp [h3,Yn]
  ·by_cases hil:i<vs.length
   ·rw [List.getElem?_append_left hil] at hi
    rw [List.getElem?_append_left (by omega)];exact h5 i hi
   ·rw [List.getElem?_append_right (by omega)] at hi
    have Yn:i-vs.length=0:=by
     have:=(List.getElem?_eq_some_iff.1 hi).1;simp at this;omega
    rw [Yn] at hi;simp at hi
  ·have split:∀q z,(us++[a.eval x])[q]? =some z→(us[q]? =some z)∨(q=us.length∧z=a.eval x):=fun q z hz=>by
    by_cases hq:q<us.length
    ·rw [List.getElem?_append_left hq] at hz;exact .inl hz
    ·rw [List.getElem?_append_right (by omega)] at hz
     have h0:q-us.length=0:=by
      have:=(List.getElem?_eq_some_iff.1 hz).1;simp at this;omega
     rw [h0] at hz;simp at hz;exact .inr ⟨by omega,hz.symm⟩
   rcases split i u hu with VH|⟨e1,e2⟩<;>rcases split j v hv with VJ|⟨e3,e4⟩
   ·exact h6 i j u v VH VJ hij g Ep SE
   ·rw [e4] at SE;exact WR u (List.mem_of_getElem? VH) g Ep SE
   ·rw [e2] at Ep;exact WR v (List.mem_of_getElem? VJ) g SE Ep
   ·exact hij (e1.trans e3.symm)
 |some p=>
  simp only [qz,hf,Option.some.injEq,Prod.mk.injEq] at hput;obtain ⟨rfl,rfl⟩:=hput;obtain ⟨c1,c2,Nj⟩:=q2 p rfl;have hsize:eP.size=bL.size:=by have:=congrArg List.length c2;simpa using this
  have hpu:p<us.length:=by omega
  refine fin (us.set p (a.eval x)) (fun u hu=>List.mem_or_eq_of_mem_set hu) ⟨b,eP,clock',us.set p (a.eval x),cA _ _ _,hown,by simp [hlt],pH,c1,by simp [h2],by simp [hsize,h3],fun i ys hi=> ?_,fun i hi=> ?_,fun i j u v hu hv hij g Ep SE=> ?_⟩
  ·by_cases TI:i=p
   ·subst TI
    rw [List.getElem?_set] at hi;simp [show i<vs.length by omega] at hi;subst hi;refine ⟨a.eval x,cells,by simp [List.getElem?_set,hpu],by rw [c2];simp [List.getElem?_set,Nj],other _ _ _ hrow Lw,hrc,hg⟩
   ·rw [List.getElem?_set_ne (Ne.symm TI)] at hi
    obtain ⟨u,cs,n1,n2,n3,n4,n5⟩:=h4 i ys hi;exact ⟨u,cs,by rw [List.getElem?_set_ne (Ne.symm TI)];exact n1,by rw [c2,List.getElem?_set_ne (Ne.symm TI)];exact n2,other u cs ys n3 (hub u (List.mem_of_getElem? n1)),n4,n5⟩
  ·by_cases TI:i=p
   ·subst TI
    rw [List.getElem?_set] at hi;simp at hi
   ·rw [List.getElem?_set_ne (Ne.symm TI)] at hi
    rw [List.getElem?_set_ne (Ne.symm TI)];exact h5 i hi
  ·have split:∀q z,(us.set p (a.eval x))[q]? =some z→(us[q]? =some z)∨(q=p∧z=a.eval x):=fun q z hz=>by
    by_cases hq:q=p
    ·subst hq
     simp [List.getElem?_set,hpu] at hz;exact .inr ⟨rfl,hz.symm⟩
    ·rw [List.getElem?_set_ne (Ne.symm hq)] at hz;exact .inl hz
   rcases split i u hu with VH|⟨e1,e2⟩<;>rcases split j v hv with VJ|⟨e3,e4⟩
   ·exact h6 i j u v VH VJ hij g Ep SE
   ·rw [e4] at SE;exact WR u (List.mem_of_getElem? VH) g Ep SE
   ·rw [e2] at Ep;exact WR v (List.mem_of_getElem? VJ) g SE Ep
   ·exact hij (e1.trans e3.symm)
theorem Gi {o:Oper} {t:TypeId} {m k x:Operand} (hR:Rel N w0 μ0 L μ loc st a w) (cG:o.dst=none) (ho:o.op= .mapUpdate t m k x∨o.op= .insert t m k x) (h:Ky P st t m k x=some st') (hK:j4 N w0 μ0 L st' K):o.wp P a w K Q:=by
 unfold Ky at h;split at h
 ·rename_i et id key k' e sz ks vs hmk
  obtain ⟨kt,hu,hm,hk,cQ,hok,hid⟩:=rX hmk;have mD:a.eval m=dL (loc id):=aX hR hm;have hkr:=cR hR hk;split at h
  ·split at h
   ·rename_i e' s hs
    split at h
    ·rename_i c6
     split at h
     ·rename_i ks' vs' hput
      injection h with h;subst h
      have hx:a.eval (.const (.slice none 0 0))= .slice none 0 0:=rfl;exact Lp (cells:=[]) hR cG ho hu mD hkr hok cQ hid hput (by rw [hx];exact ⟨by simp, .inl ⟨rfl,rfl⟩⟩) rfl (fun g hg=>by rw [hx] at hg;simp [bV] at hg) (fun j oj _ g hg=>by rw [hx] at hg;simp [bV] at hg) hK
     ·cases h
    ·cases h
   ·cases h
  ·split at h
   ·rename_i j hx
    split at h
    ·rename_i e' s xs Pv
     split at h
     ·rename_i c6
      obtain ⟨rfl,rfl,hj⟩:=c6;split at h
      ·rename_i ks' vs' hput
       injection h with h;subst h
       have hne:id≠j:=fun e=>by subst e;rw [cQ] at Pv;cases Pv
       have oV:a.eval x=loc j:=(aX hR hx:a.eval x=dL (loc j)).trans (iH (hR.obs j _ Pv));obtain ⟨cells,hrow,hrc,hgj⟩:=hR.obs j _ Pv;have hob2:(st.bR j).ob id=some (.mr k' e s ks vs):=by simp [St.bR,aV _ _ (Ne.symm hne),cQ,Ob.bR]
       refine Lp (cells:=cells) (hR.Td j) cG ho hu mD hkr hok hob2 hid hput (by rw [oV];exact hrow) hrc (fun g hg=> ?_) (fun i oi hi g hg=> ?_) hK
       ·rw [oV] at hg
        obtain ⟨m1,m2⟩:=hgj g (.inl hg);rcases m1 with m1|⟨v,hv,_⟩
        ·exact ⟨m1,m2⟩
        ·rw [hR.names j hj] at hv;cases hv
       ·rw [oV] at hg
        by_cases e:j=i
        ·subst e;simp [St.bR,bO] at hi
        ·simp only [St.bR,aV _ _ e,Option.map_eq_some_iff] at hi
         obtain ⟨N6,hi',_⟩:=hi;exact hR.apart j i _ N6 Pv hi' e g (.inl hg)
      ·cases h
     ·cases h
    ·cases h
   ·cases h
 ·cases h
theorem Jl {o:Oper} {t k e e':TypeId} {s:Nat} {r:Option Operand} {d:Nat} (hR:Rel N w0 μ0 L μ loc st a w) (hd:d<N) (cG:o.dst=some d) (ho:o.op= .makeMap t r) (ht:P.underlying t=some (.map k e))
  (hr:ng P st r=true) (hK:j4 N w0 μ0 L ((st.new d (.mr k e' s [] [])).set (some d) (.row d)) K):o.wp P a w K Q:=by
 have hrun:=yQ (P:=P) hR ht hr;refine dZ (v:= .map (some w.heap.size)) (w':=w.alloc (.map #[] 0)) (by unfold execOp;rw [ho];simp [hrun]) ?_;rw [cG];have h1:=(hR.Ls (lQ w (.map #[] 0))).new (id:=d) (val:= .tuple (.map (some w.heap.size)::[]).toArray) (o:= .mr k e' s [] []) (.inl (Nat.lt_of_lt_of_le hd hR.small))
  ⟨w.heap.size, #[],0,[],cA _ _ _,hR.grown,(by show (w.heap.push _)[w.heap.size]? =_;simp),rY hR _ (Nat.le_refl _),by simp [bB],rfl,rfl,by simp,by simp,by simp⟩ (fun j oj hj hne g hg=>by
  rcases iM.1 hg with rfl|⟨u,hu,_⟩
  ·intro hb
   have:=((hR.obs j oj hj).block _ hb).2.1;omega
  ·simp at hu)
 exact hK _ _ _ _ (h1.set (fun i hi=>by injection hi with hi;omega) (by show _=dL (tV _ _ _ _);rw [cA];rfl))
theorem M3 {o:Oper} {t:TypeId} {x:Operand} {d:Nat} {s:List UInt8} (hR:Rel N w0 μ0 L μ loc st a w) (hd:d<N) (cG:o.dst=some d) (ho:o.op= .range t x) (ht:P.underlying t=some .string) (hx:(bg P t st x).bind eC =some (.str s))
  (hK:j4 N w0 μ0 L ((st.new d (.it s 0)).set (some d) (.ptr d 0)) K):o.wp P a w K Q:=by
 have hv:=cR hR hx;rw [rep] at hv;refine dZ (v:= .pointer (some ⟨w.heap.size,0,none⟩)) (w':=w.alloc (.stringIter ⟨s.toArray⟩ 0)) (by unfold execOp;rw [ho];simp [Instr.range,run_underlying ht,hv,newObj,Sem.run]) ?_;rw [cG];refine hK _ _ _ _ (hR.made hd (fun g hg=>jE.1 hg) ?_ ?_)
 ·exact ⟨w.heap.size,cA _ _ _, .inl hR.grown,(by show (w.heap.push _)[w.heap.size]? =_;simp),rY hR _ (Nat.le_refl _)⟩
 ·exact ⟨w.heap.size,cA _ _ _,rfl⟩
theorem OS {o:Oper} {x:Operand} {d id pos:Nat} {s:List UInt8} (hR:Rel N w0 μ0 L μ loc st a w) (hd:d<N) (cG:o.dst=some d) (ho:o.op= .next x true) (hx:bg P 0 st x=some (.ptr id 0)) (cQ:st.ob id=some (.it s pos))
  (hK:if pos<s.length then j4 N w0 μ0 L (St.set { st with ob:=put st.ob id (some (.it s (pos+(Utf8.decode ⟨s.toArray⟩ pos).2))) } (some d) (.pv (.fk [.bool true, .int .i64 pos, .int .i32 (Utf8.decode ⟨s.toArray⟩ pos).1]))) K
   else j4 N w0 μ0 L (st.set (some d) (.pv (.fk [.bool false]))) K):o.wp P a w K Q:=by
 obtain ⟨b0,hl0,hv⟩:=aX hR hx;obtain ⟨b,hl,hown,hh,pH⟩:=hR.obs id _ cQ;rw [hl] at hl0;simp only [Value.pointer.injEq,Option.some.injEq,Addr.mk.injEq,and_true] at hl0;subst hl0;have hsz:(⟨s.toArray⟩:ByteArray).size=s.length:=by simp [ByteArray.size]
 have hlt:=(Array.getElem?_eq_some_iff.1 hh).1;have iU:(getObj b).run P w= .ok (.stringIter ⟨s.toArray⟩ pos) w:=by simp [getObj,Sem.run,hh]
 by_cases hp:pos<s.length
 ·rw [if_pos hp] at hK
  refine dZ (v:= .tuple #[.bool true, .int .i64 pos, .int .i32 (Utf8.decode ⟨s.toArray⟩ pos).1]) (w':={ w with heap:=w.heap.setIfInBounds b (.stringIter ⟨s.toArray⟩ (pos+(Utf8.decode ⟨s.toArray⟩ pos).2)) }) (by
   unfold execOp;rw [ho];simp [Instr.next,hv,iU,hsz,hp,goInt]
   simp [setObj,Sem.run,hh]) ?_
  rw [cG]
  have r1:=hR.write cQ (o':= .it s (pos+(Utf8.decode ⟨s.toArray⟩ pos).2)) (g:=b) (by rw [hl];exact jE.2 rfl) (w':={ w with heap:=w.heap.setIfInBounds b (.stringIter ⟨s.toArray⟩ (pos+(Utf8.decode ⟨s.toArray⟩ pos).2)) }) (fun b' hb'=>by
   simp only [];rw [Array.getElem?_setIfInBounds_ne (fun e=>hb' e.symm)]) rfl rfl rfl (by simp) ⟨b,hl,hown,by simp [hlt],pH⟩
  refine hK _ _ _ _ (r1.set (fun i hi=>by injection hi with hi;omega) ?_);show rep μ (.fk _) _;rw [rep];exact ⟨[.bool true, .int .i64 pos, .int .i32 (Utf8.decode ⟨s.toArray⟩ pos).1],rfl,bD (by simp [rep]) (bD (by simp [rep]) (bD (by simp [rep]) b8))⟩
 ·rw [if_neg hp] at hK
  refine dZ (v:= .tuple #[.bool false]) (w':=w) (by
   unfold execOp;rw [ho]
   simp [Instr.next,hv,iU,hsz,hp]) ?_
  rw [cG];refine hK _ _ _ _ (hR.set (fun i hi=>by injection hi with hi;omega) ?_);show rep μ (.fk _) _;rw [rep];exact ⟨[.bool false],rfl,bD (by simp [rep]) b8⟩
end
end Go.AM
