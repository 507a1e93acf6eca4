/- THE ABSTRACT MACHINE. -/
import Derived.Test.YthppjmoncapdfaaGreatDoorAmStep
set_option linter.unusedVariables false
set_option linter.unusedSimpArgs false
namespace Go.AM
open Go.RowKit
section
variable {μ μ':Mu} {loc:Nat→Value}
theorem ow {sz b:Nat} {xs:List (List AV)} {vs:List Value} {off:Nat} (h:bZ μ sz xs vs) (hle:μ.le μ') (hc:∀j u,vs[j]? =some u→μ' b (off+j)=some u):fR μ' sz b xs off:=by
 induction xs generalizing vs off with
 |nil=>simp [fR]
 |cons x xs ih=>
  obtain ⟨us,ws,rfl,h1,h2,h3⟩:=h;rw [fR];refine ⟨⟨us,(h1.mono hle).1,h1.2,h2,fun j u hu=>hc j u ?_⟩,ih h3 fun j u hu=> ?_⟩
  ·rw [List.getElem?_append_left (by simpa using (List.getElem?_eq_some_iff.1 hu).1)];exact hu
  ·have:=hc (sz+j) u (by rw [List.getElem?_append_right (by omega),h2];simpa using hu)
   rwa [←Nat.add_assoc] at this
theorem jd {sz:Nat} {xs ys:List (List AV)} {vs us:List Value} (h:bZ μ sz xs vs) (k:bZ μ sz ys us):bZ μ sz (xs++ys) (vs++us):=by
 induction xs generalizing vs with
 |nil=>have:vs=[]:=h;subst this;simpa using k
 |cons x xs ih=>obtain ⟨a,b,rfl,h1,h2,h3⟩:=h;exact ⟨a,b++us,by simp,h1,h2,ih h3⟩
theorem kZ {sz:Nat} {z:List AV} {zs:List Value} (h:fT μ z zs) (hl:zs.length=sz):∀n,bZ μ sz (List.replicate n z) (List.replicate n zs).flatten
 |0=>rfl
 |n+1=>⟨zs,(List.replicate n zs).flatten,by simp [List.replicate_succ],h,hl,kZ h hl n⟩
theorem tT {sz:Nat}:∀(n:Nat) {cs:List AV} {vs:List Value},fT μ cs vs→cs.length=n *sz→bZ μ sz (chunks sz n cs) vs
 |0,cs,vs,h,hl=>by
  have:vs=[]:=List.eq_nil_of_length_eq_zero (by rw [h.length];omega);subst this;rfl
 |n+1,cs,vs,h,hl=>by
  rw [Nat.add_mul] at hl;have hv:=h.length;exact ⟨vs.take sz,vs.drop sz,by simp,h.take sz,by simp;omega,tT n (h.drop sz) (by simp;omega)⟩
theorem yC {z:List AV} {zs:List Value} (h:fT μ z zs):∀n,fT μ (nY z n) (List.replicate n zs).flatten
 |0=>⟨cK,by simp⟩
 |n+1=>by simpa [nY,List.replicate_succ] using h.append (yC h n)
theorem tS (z:List AV):∀n,(nY z n).length=n *z.length
 |0=>by simp [nY]
 |n+1=>by simp [nY,tS z n,Nat.add_mul];omega
theorem vH (sz:Nat):∀(n:Nat) (l:List AV),(chunks sz n l).length=n
 |0,_=>rfl
 |n+1,l=>by simp [chunks,vH sz n]
theorem er {id:Nat} {s:SV} {v:Value} (k:c8 μ loc s v):c8 μ loc (s.cn id) v:=by
 unfold SV.cn;cases s.mentions id with
 |true=>trivial
 |false=>exact k
theorem Hu {id:Nat} {s:SV} {v:Value} {x:AV} (k:c8 μ loc s v) (hx:rep μ x (cV (loc id))):c8 μ loc (s.cw id x) v:=by
 cases s with
 |row j=>
  cases h:Nat.beq j id with
  |true=>
   simp only [SV.cw,h,cond_true];have:=beq_iff.1 h;subst this;have e:v=cV (loc j):=k;rw [e];exact hx
  |false=>simp only [SV.cw,h,cond_false];exact k
 |_=>exact er k
theorem W5 {id:Nat} {v u:Value} (h:cV v=u):c8 μ (kT loc id v) (.row id) u:=by
 show u=cV (kT loc id v id);rw [bN,h]
theorem Dy {id:Nat} {v:Value} (h:cV v=v):c8 μ (kT loc id v) (.row id) v:=by
 show v=cV (kT loc id v id);rw [bN,h]
theorem oH (zc:Array Value) (s:Nat) (hz:zc.size=s) (hs:0<s) (n:Nat):(madeCells zc (n *s)).toList=(List.replicate n zc.toList).flatten:=by
 have key:∀n,(List.range (n *s)).map (fun i=>zc[i % s]!)=(List.replicate n zc.toList).flatten:=by
  intro n
  induction n with
  |zero=>simp
  |succ n ih=>
   rw [Nat.succ_mul,Nat.add_comm,List.range_add,List.map_append,List.map_map];have h1:(List.range s).map (fun i=>zc[i % s]!)=zc.toList:=by
    apply List.ext_getElem?;intro i;simp only [List.getElem?_map,List.getElem?_range];by_cases hi:i<s
    ·simp [hi,List.getElem?_range,Nat.mod_eq_of_lt hi,hz,getElem!_pos,Array.getElem?_eq_getElem (show i<zc.size by omega)]
    ·simp [hi,List.getElem?_eq_none (show zc.toList.length≤i by simp;omega),List.getElem?_eq_none (show (List.range s).length≤i by simp;omega)]
   have h2:((fun i=>zc[i % s]!)∘fun x=>s+x)=fun i=>zc[i % s]! :=by
    funext i;simp [Function.comp]
   rw [h1,h2,ih];simp [List.replicate_succ]
 have:=key n;simpa [madeCells,hz] using this
theorem IA (zs:List Value) {l c:Nat} (h:l≤c):(List.replicate c zs).flatten.take (l *zs.length)=(List.replicate l zs).flatten:=by
 obtain ⟨d,rfl⟩:=Nat.exists_eq_add_of_le h;rw [←List.replicate_append_replicate,List.flatten_append,List.take_append_of_le_length (by simp)];exact List.take_of_length_le (by simp)
end
section
variable {P:Program} {N:Nat} {w0:World} {μ0:Mu} {L:mG} {μ:Mu} {loc:Nat→Value} {st st':St} {a:Act} {w:World} {Q:Exit→Act→World→Prop} {K:Act→World→Prop}
theorem uO {e sz:Nat} {xs:List (List AV)} {u:Value} {cells:List Value} (hown:w.ownsRow 0 e sz u xs.length cells) (hrc:bZ μ sz xs cells) {μ':Mu} (hle:μ.le μ')
  (hm:∀b j v,aU u=some b→yS w b j=some v→μ' b j=some v):rep μ' (.aW sz xs) u:=by
 have hone:=gO hrc;rw [rep];rcases hown.2 with ⟨e1,e2⟩|⟨g,cap,cur,e1,_,hg,hnc,hcm,_⟩
 ·exact ⟨none,0,by rw [e1,e2],by omega,by simp [maxLen], .inl e2⟩
 ·refine ⟨_,cap,e1,hnc,hcm, .inr ⟨g,0,rfl,ow hrc hle fun j u hu=> ?_⟩⟩
  have:=hown.cells (g:=g) (by rw [e1];rfl) j u hu;rw [add_lit] at this;exact hm g _ u (by rw [e1];rfl) (n9 this (hone u (List.mem_of_getElem? hu)))
theorem uf {α:Type}:∀{vs:List (Option α)} {l:List α},jL vs=some l→vs=l.map some
 |[],l,h=>by simp only [jL,Option.some.injEq] at h;subst h;rfl
 |none::vs,l,h=>by simp [jL] at h
 |some x::vs,l,h=>by
  simp only [jL,Option.map_eq_some_iff] at h;obtain ⟨l',h1,rfl⟩:=h;simp [uf h1]
theorem Du {cs:List AV}:∀{k:Nat} {vs:List Value} {u:Value} {a:AV},br μ cs vs→vs[k]? =some u→rep μ a u→br μ (cs.set k a) vs:=by
 induction cs with
 |nil=>intro k vs u a h hu _;simp only [br] at h;subst h;simp at hu
 |cons c cs ih=>
  intro k vs u a h hu hr;obtain ⟨v,us,rfl,h1,h2⟩:=h;cases k with
  |zero=>simp at hu;subst hu;exact ⟨v,us,rfl,hr,h2⟩
  |succ k=>exact ⟨v,us,rfl,h1,ih h2 (by simpa using hu) hr⟩
theorem tU {k sz sz':Nat} {μ':Mu} (hle:μ.le μ') (hk:k<sz):∀{xs:List (List AV)} {l:List (List (List AV))} {vs:List Value},bZ μ sz xs vs→xs.length=l.length→
  (∀(i:Nat) zs,l[i]? =some zs→∃u,vs[i *sz+k]? =some u∧rep μ' (.aW sz' zs) u)→bZ μ' sz (rA k sz' xs l) vs
 |[],[],vs,h,_,_=>h
 |[],_::_,vs,_,h,_=>by simp at h
 |_::_,[],vs,_,h,_=>by simp at h
 |x::xs,y::l,vs,⟨us,ws,e,h1,h2,h3⟩,hl,hall=>by
  subst e;obtain ⟨u,hu,hr⟩:=hall 0 y (by simp);rw [Nat.zero_mul,Nat.zero_add,List.getElem?_append_left (by omega)] at hu;refine ⟨us,ws,rfl,⟨Du (dD hle _ _ h1.1) hu hr,h1.2⟩,h2,tU hle hk h3 (by simpa using hl) fun i zs hi=> ?_⟩;obtain ⟨u2,JS,WK⟩:=hall (i+1) zs (by simpa using hi);refine ⟨u2,?_,WK⟩;rw [List.getElem?_append_right (by rw [h2,Nat.succ_mul];omega)] at JS
  rwa [show (i+1) *sz+k-us.length=i *sz+k by rw [h2,Nat.succ_mul];omega] at JS
theorem vY {k sz':Nat}:∀{xs:List (List AV)} {l:List (List (List AV))},xs.length=l.length→(rA k sz' xs l).length=xs.length
 |[],[],_=>rfl
 |[],_::_,h=>by simp at h
 |_::_,[],h=>by simp at h
 |x::xs,y::l,h=>by simp [rA,vY (xs:=xs) (l:=l) (by simpa using h)]
theorem IB {n0:Nat} {id:Nat} {o:Ob} {v:AV} (h:ig n0 L μ loc w id o) (hv:o.val=some v) {μ':Mu} (hle:μ.le μ')
  (hm:∀b j v,fE (loc id) b→yS w b j=some v→μ' b j=some v):rep μ' v (cV (loc id)):=by
 cases o with
 |box t cells=>simp [Ob.val] at hv
 |it s n=>simp [Ob.val] at hv
 |lp s=>simp [Ob.val] at hv
 |row e sz xs=>
  simp only [Ob.val,Option.some.injEq] at hv;subst hv;rw [eO h];obtain ⟨vs,hown,hrc,_⟩:=h;exact uO hown hrc hle (fun b j v hb=>hm b j v (.inl hb))
 |mp k e ks es=>
  simp only [Ob.val,Option.some.injEq] at hv;subst hv;rw [NJ h];obtain ⟨b,cN,clock,hl,_,hh,_,h1,h2,_⟩:=h;rw [rep,hl];exact .inr ⟨b,_,_,rfl,dD hle _ _ h1,dD hle _ _ h2,hm b 0 _ (by rw [hl];exact oF.2 rfl) (DF hh)⟩
 |mr k e sz ks vs=>
  simp only [Ob.val,Option.map_eq_some_iff] at hv;obtain ⟨l,hal,rfl⟩:=hv;obtain ⟨b,cN,clock,us,hl,_,hh,_,h1,h2,h3,h4,h5,h6⟩:=h;have hvs:=uf hal;rw [hl,rep];refine .inr ⟨b,_,cN.toList.map (·.val),rfl,dD hle _ _ h1,?_,hm b 0 _ (by rw [hl];exact jC.2 (.inl rfl)) (DF hh)⟩;have key:∀(l:List (List (List AV))) (es:List Value),es.length=l.length→(∀(i:Nat) xs,l[i]? =some xs→∃u,es[i]? =some u∧rep μ' (.aW sz xs) u)→br μ' (l.map (.aW sz)) es:=by
   intro l
   induction l with
   |nil=>intro es he _;rw [List.eq_nil_of_length_eq_zero he];exact cK
   |cons x l ih=>
    intro es he hall;cases es with
    |nil=>simp at he
    |cons u es=>
     obtain ⟨u',Bj,hr⟩:=hall 0 x (by simp);simp at Bj;subst Bj
     exact bI hr (ih es (by simpa using he) (fun i xs hi=>by
      obtain ⟨u2,JS,WK⟩:=hall (i+1) xs (by simpa using hi)
      exact ⟨u2,by simpa using JS,WK⟩))
  refine key l _ (by simp [h3,hvs]) (fun i xs hi=> ?_);obtain ⟨u,cells,k1,k2,k3,k4,k5⟩:=h4 i xs (by rw [hvs];simp [hi]);exact ⟨u,k2,uO k3 k4 hle (fun g j v hg=>hm g j v (by rw [hl];exact jC.2 (.inr ⟨u,List.mem_of_getElem? k1,hg⟩)))⟩
 |rn e sz k e' sz' xs ys=>
  simp only [Ob.val,Option.map_eq_some_iff] at hv;obtain ⟨l,hal,rfl⟩:=hv;obtain ⟨m,us,vs,hl,_,hown,hrc,hk,h2,h3,h4,h5,h6,h7⟩:=h;have hvs:=uf hal;have Sg:xs.length=l.length:=by rw [h3,hvs,List.length_map]
  rw [hl];show rep μ' _ m;refine uO (μ:=μ') (by rw [vY Sg];exact hown) (tU hle hk.1 hrc Sg fun i zs hi=> ?_) (Mu.le.refl _) fun b j v hb hs=>hm b j v (by rw [hl];exact fP.2 (.inl hb)) hs
  obtain ⟨u,cells,k1,k2,k3,k4,k5⟩:=h4 i zs (by rw [hvs];simp [hi]);exact ⟨u,k2,uO k3 k4 hle (fun g j v hg=>hm g j v (by rw [hl];exact fP.2 (.inr ⟨u,List.mem_of_getElem? k1,hg⟩)))⟩
open Classical in
noncomputable def kg (w:World) (loc:Nat→Value) (id:Nat) (μ:Mu):Mu:=fun b j=>if fE (loc id) b then yS w b j else μ b j
theorem Rel.Ua (hR:Rel N w0 μ0 L μ loc st a w) {id:Nat} {o:Ob} (cu:st.ob id=some o) (hlt:id<10000) (f:SV→SV) (g:Ob→Ob) (hf:∀s v,c8 (kg w loc id μ) loc s v→c8 (kg w loc id μ) loc (f s) v)
  (hg:∀ob,g ob=match ob with| .box t cells=> .box t (cells.map f)|o=>o):
  μ.le (kg w loc id μ)∧Rel N w0 μ0 L (kg w loc id μ) loc { env:=fun i=>(st.env i).map f,ob:=put (fun i=>(st.ob i).map g) id none } a w:=by
 have hok:=hR.obs id _ cu;have PE:∀(cs:List SV) (vs:List Value),eM (kg w loc id μ) loc cs vs→eM (kg w loc id μ) loc (cs.map f) vs:=by
  intro cs
  induction cs with
  |nil=>intro vs h;exact h
  |cons c cs ih=>rintro vs ⟨u,us,e,h1,h2⟩;exact ⟨u,us,e,hf _ _ h1,ih us h2⟩
 have hle:μ.le (kg w loc id μ):=fun b j v hv=>by
  by_cases hb:fE (loc id) b
  ·have:=(hok.block b hb).2.2 j;rw [this] at hv;cases hv
  ·simpa [kg,hb] using hv
 have Yl:∀i oi,i≠id→st.ob i=some oi→∀b,fE (loc i) b→∀j,kg w loc id μ b j=none:=fun i oi hne hi b hb j=>by
  have hn:¬fE (loc id) b:=fun hid=>hR.apart id i _ oi cu hi (fun e=>hne e.symm) b hid hb
  simp only [kg,if_neg hn];exact (hR.obs i oi hi).block b hb|>.2.2 j
 have h1:=(hR.drop id).world (w':=w) (μ':=kg w loc id μ) hle (fun b j v hv=>by
   by_cases hb:fE (loc id) b
   ·rcases (hok.block b hb).1 with hh|⟨v,hh,_⟩
    ·exact .inr hh
    ·rw [hR.names id hlt] at hh;cases hh
   ·exact .inl (by simpa [kg,hb] using hv)) (fun b j v hv=>by
   by_cases hb:fE (loc id) b
   ·simpa [kg,hb] using hv
   ·exact hR.oZ b j v (by simpa [kg,hb] using hv)) (fun i oi hi b hb=>by
   by_cases e':id=i
   ·subst e';simp [bH] at hi
   ·simp only [aQ _ _ e'] at hi
    exact ⟨rfl,Yl i oi (fun e=>e' e.symm) hi b hb⟩) (fun _ _ _=>rfl) rfl rfl rfl (Nat.le_refl _)
 refine ⟨hle,h1.small,h1.names,h1.fix,h1.size,h1.defers,?_,h1.oZ,h1.base,?_,?_,h1.keep,h1.os,h1.tape,h1.output,h1.grown,h1.drawn⟩
 ·intro i s hi
  simp only [] at hi;cases he:st.env i with
  |none=>simp [he] at hi
  |some s'=>
   simp [he] at hi;subst hi;obtain ⟨v,hv,hr⟩:=h1.env i s' he;exact ⟨v,hv,hf _ _ hr⟩
 ·intro i oi hi
  by_cases e':id=i
  ·subst e';simp [bH] at hi
  ·simp only [aQ _ _ e'] at hi
   cases ho:st.ob i with
   |none=>simp [ho] at hi
   |some oj=>
    simp [ho] at hi;subst hi;have k:=h1.obs i oj (by simpa only [aQ _ _ e'] using ho);rw [hg];cases oj with
    |box t cells=>
     obtain ⟨b,vs,hl,ho',hh,hm,hs,Px⟩:=k;exact ⟨b,vs,hl,ho',hh,hm,PE _ _ hs,Px⟩
    |row e2 ZB xs2=>exact k
    |mp k2 e2 ks2 vs2=>exact k
    |mr k2 e2 s2 ks2 vs2=>exact k
    |it s2 n2=>exact k
    |lp s2=>exact k
    |rn e2 s2 k2 e3 s3 x2 y2=>exact k
 ·intro i j oi oj hi hj hij
  have get:∀k ok,put (fun i=>(st.ob i).map g) id none k=some ok→∃ok',st.ob k=some ok':=fun k ok hk=>by
   by_cases e':id=k
   ·subst e';simp [bH] at hk
   ·simp only [aQ _ _ e'] at hk
    cases ho:st.ob k with
    |none=>simp [ho] at hk
    |some x=>exact ⟨x,rfl⟩
  obtain ⟨Ra,hi'⟩:=get i oi hi;obtain ⟨Kj,hj'⟩:=get j oj hj;exact hR.apart i j Ra Kj hi' hj' hij
theorem TZ {id:Nat} (h:r9 id=true):id<10000:=by simpa [r9,Nat.blt_eq] using h
theorem Rel.cw (hR:Rel N w0 μ0 L μ loc st a w) {id:Nat} (h:st.cw id=some st'):∃μ',μ.le μ'∧Rel N w0 μ0 L μ' loc st' a w:=by
 unfold St.cw at h;split at h
 ·rename_i v hid qE
  injection h with h
  subst h;obtain ⟨o,cu,hval⟩:=Option.bind_eq_some_iff.1 qE;have hok:=hR.obs id _ cu;have hle:μ.le (kg w loc id μ):=fun b j v hv=>by
   by_cases hb:fE (loc id) b
   ·have:=(hok.block b hb).2.2 j;rw [this] at hv;cases hv
   ·simpa [kg,hb] using hv
  have sK:rep (kg w loc id μ) v (cV (loc id)):=IB hok hval hle fun b j v hb hc=>by simpa [kg,hb] using hc
  exact ⟨_,hR.Ua cu (TZ hid) (SV.cw id v) (Ob.cw id v) (fun s u hs=>Hu hs sK) (fun ob=>by cases ob<;>rfl)⟩
 ·cases h
theorem Rel.jk (hR:Rel N w0 μ0 L μ loc st a w) {id:Nat} (h:st.jk id=some st'):∃μ',μ.le μ'∧Rel N w0 μ0 L μ' loc st' a w:=by
 unfold St.jk at h;split at h
 ·rename_i t cells hid cu
  split at h
  ·rename_i cs hcs
   injection h with h
   subst h;obtain ⟨b,vs,hl,ho,hh,hm,hs,h1⟩:=hR.obs id _ cu;have hle:μ.le (kg w loc id μ):=fun b' j v hv=>by
    by_cases hb:fE (loc id) b'
    ·have:=((hR.obs id _ cu).block b' hb).2.2 j;rw [this] at hv;cases hv
    ·simpa [AM.kg,hb] using hv
   have hc:fT (kg w loc id μ) cs vs:=⟨dD hle _ _ (An hcs hs),h1⟩
   refine ⟨_,hR.Ua cu (TZ hid) (SV.jk id cs) (Ob.jk id cs) (fun s u hs=> ?_) (fun ob=>by cases ob<;>rfl)⟩;cases s with
   |ptr j off=>
    simp only [SV.jk];cases hj:Nat.beq j id with
    |false=>exact hs
    |true=>
     have:=beq_iff.1 hj;subst this;obtain ⟨b',hl',rfl⟩:=hs;rw [hl] at hl';simp only [Value.pointer.injEq,Option.some.injEq,Addr.mk.injEq] at hl';obtain ⟨rfl,_⟩:=hl';refine ⟨b,off,vs.drop off,rfl,hc.drop off,fun k u hu=> ?_⟩;rw [List.getElem?_drop] at hu;have e:fE (loc j) b:=by rw [hl];exact kP.2 rfl
     simp only [AM.kg,if_pos e];exact n9 (by rw [cell_of_row w b (off+k) vs.toArray t (0,0) hh];simpa using hu) (h1 u (List.mem_of_getElem? hu))
   |undef=>exact er hs
   |any=>exact er hs
   |pv x=>exact er hs
   |row j=>exact er hs
   |rp j sz i off=>exact er hs
   |sub j sz lo hi=>exact er hs
   |cp c=>exact er hs
   |cl f caps=>exact er hs
   |ag caps=>exact er hs
   | «at» j q=>exact er hs
   |two s b=>exact er hs
  ·cases h
 ·cases h
theorem Ew (hR:Rel N w0 μ0 L μ loc st a w):∀{xs:List Operand} {st st':St} {μ:Mu},Rel N w0 μ0 L μ loc st a w→qU st xs=some st'→∃μ',μ.le μ'∧Rel N w0 μ0 L μ' loc st' a w:=by
 intro xs
 induction xs with
 |nil=>intro st st' μ h hp;simp only [qU,Option.some.injEq] at hp;subst hp;exact ⟨μ,Mu.le.refl _,h⟩
 |cons x xs ih=>
  intro st st' μ h hp;cases x with
  |tmp i=>
   simp only [qU] at hp;split at hp
   ·rename_i id off hi
    cases h1:st.jk id with
    |none=>rw [h1] at hp;cases hp
    |some st1=>
     rw [h1] at hp;obtain ⟨μ1,hle1,CB⟩:=h.jk h1;obtain ⟨μ2,hle2,N9⟩:=ih CB hp;exact ⟨μ2,hle1.trans hle2,N9⟩
   ·exact ih h hp
  |const v=>exact ih h hp
  |func f=>exact ih h hp
  |global g=>exact ih h hp
def Wd (F:Fence):Prop:=F.plain=Fence.wide
theorem Wd.fn {F:Fence} (h:Wd F) (f:FuncId):F.fn f:=by
 have h:F.plain=Fence.wide:=h;have:F.plain.fn=Fence.wide.fn:=congrArg Fence.fn h;have:F.fn=Fence.wide.fn:=this;rw [this];trivial
theorem Wd.depth {F:Fence} (h:Wd F):F.depth=none:=by
 have h:F.plain=Fence.wide:=h;have:F.plain.depth=Fence.wide.depth:=congrArg Fence.depth h;exact this
theorem Wd.one {F:Fence} (h:Wd F) {p:Prop}:F.depth.isSome=true→p:=fun e=>by rw [h.depth] at e;cases e
theorem Wd.plain {F:Fence} (h:Wd F) (hr:F.round=none):F=Fence.wide:=by
 have:=h;unfold Wd Fence.plain at this;rw [←hr] at this;exact this
theorem Wd.wide:Wd Fence.wide:=rfl
def _root_.Go.Oper.pE (P:Program) (o:Oper) (a:Act) (w:World) (K:Act→World→Prop) (Q:Exit→Act→World→Prop):Prop:=∀F,Wd F→o.wpIn F 0 P a w K Q
theorem D4 {o:Oper} {x:Next} {w':World} (hnd:∀c,o.op≠ .defer c) (hr:(execOp a.eval o).run P w= .ok x w') (h:∀F,Wd F→o.uponIn F 0 P a K Q (.ok x w')):o.pE P a w K Q:=fun F hF=>by
 unfold Oper.wpIn;rw [Oper.semAt_eq _ _ _ hnd,hr];exact ⟨fun f _=>hF.fn f,h F hF⟩
theorem yP {o:Oper} {w':World} (hr:(execOp a.eval o).run P w= .ok .skip w') (hK:K (a.put o.dst undef) w'):o.pE P a w K Q:=
 D4 (fun c hc=>by
  unfold execOp at hr;rw [hc] at hr;simp only [Sem.run_bind] at hr;cases hx:(resolve a.eval c o.type).run P w with
  |ok d w2=>rw [hx] at hr;simp at hr
  |halt e w2=>rw [hx] at hr;simp at hr) hr fun _ _=>hK
theorem dY {o:Oper} {v:Value} {w':World} (hr:(execOp a.eval o).run P w= .ok (.value v) w') (hK:K (a.put o.dst v) w'):o.pE P a w K Q:=
 D4 (fun c hc=>by
  unfold execOp at hr;rw [hc] at hr;simp only [Sem.run_bind] at hr;cases hx:(resolve a.eval c o.type).run P w with
  |ok d w2=>rw [hx] at hr;simp at hr
  |halt e w2=>rw [hx] at hr;simp at hr) hr fun _ _=>hK
def iU (N:Nat) (w0:World) (μ0:Mu) (L:mG) (st':St) (K:Act→World→Prop):Prop:=∀a' w' μ' loc',Rel N w0 μ0 L μ' loc' st' a' w'→K a' w'
theorem jH (hR:Rel N w0 μ0 L μ loc st a w) {o:Oper} {sv:SV} (hd:∀i,o.dst=some i→i<N) (hg:jl P μ loc o sv a w) (hK:iU N w0 μ0 L (st.set o.dst sv) K):o.pE P a w K Q:=by
 obtain ⟨v,hr,hs⟩:=hg;exact dY hr (hK _ _ _ _ (hR.set hd hs))
theorem qp (hR:Rel N w0 μ0 L μ loc st a w):∀b,w.heap.size≤b→∀j,μ b j=none:=fun b hb j=>by
 cases hj:μ b j with
 |none=>rfl
 |some v=>
  have:=gW (hR.oZ b j v hj);omega
theorem lq (w:World) (o:Obj):Below w.heap.size w (w.alloc o):=(Below.refl _ _).alloc (Nat.le_refl _) o
theorem Rel.made (hR:Rel N w0 μ0 L μ loc st a w) {d:Nat} (hd:d<N) {x:Obj} {val:Value} {o:Ob} {sv:SV} (hval:∀g,fE val g→g=w.heap.size)
  (cu:ig w0.heap.size L μ (kT loc d val) (w.alloc x) d o) (hs:c8 μ (kT loc d val) sv val):
  Rel N w0 μ0 L μ (kT loc d val) ((st.new d o).set (some d) sv) (a.put (some d) val) (w.alloc x):=by
 have h1:=(hR.JO (lq w x)).new (id:=d) (val:=val) (o:=o) (.inl (Nat.lt_of_lt_of_le hd hR.small)) cu (fun j oj hj hne g hg=>by
  have:=hval g hg;subst this;intro hb;have:=((hR.obs j oj hj).block _ hb).2.1
  omega)
 exact h1.set (fun i hi=>by injection hi with hi;omega) hs
theorem Rel.made' (hR:Rel N w0 μ0 L μ loc st a w) {d:Nat} (hd:d<N) {x:Obj} {val u:Value} {o:Ob} {sv:SV} (hval:∀g,fE val g→g=w.heap.size)
  (cu:ig w0.heap.size L μ (kT loc d val) (w.alloc x) d o) (hs:c8 μ (kT loc d val) sv u):
  Rel N w0 μ0 L μ (kT loc d val) ((st.new d o).set (some d) sv) (a.put (some d) u) (w.alloc x):=by
 have h1:=(hR.JO (lq w x)).new (id:=d) (val:=val) (o:=o) (.inl (Nat.lt_of_lt_of_le hd hR.small)) cu (fun j oj hj hne g hg=>by
  have:=hval g hg;subst this;intro hb;have:=((hR.obs j oj hj).block _ hb).2.1
  omega)
 exact h1.set (fun i hi=>by injection hi with hi;omega) hs
theorem xN {o:Oper} {t:TypeId} {d:Nat} {v:Value} {cells:List SV} (hR:Rel N w0 μ0 L μ loc st a w) (hd:d<N) (cv:o.dst=some d)
  (hr:(execOp a.eval o).run P w= .ok (.value (.pointer (some ⟨w.heap.size,0,none⟩))) (w.alloc (.cells v.cells t)))
  (hs:eM μ (kT loc d (.pointer (some ⟨w.heap.size,0,none⟩))) cells v.cells.toList) (h1:∀u∈v.cells.toList,u.oneCell'=true)
  (hK:iU N w0 μ0 L ((st.new d (.box t cells)).set (some d) (.ptr d 0)) K):o.pE P a w K Q:=by
 refine dY hr ?_;rw [cv];refine hK _ _ _ _ (hR.made hd (by simp [fE,aU,eq_comm]) ?_ ?_)
 ·refine ⟨w.heap.size,v.cells.toList,bN _ _ _, .inl hR.grown,?_,qp hR _ (Nat.le_refl _),hs,h1⟩
  rw [Array.toArray_toList];exact heap_alloc_new w _
 ·exact ⟨w.heap.size,bN _ _ _,rfl⟩
theorem M1 (hR:Rel N w0 μ0 L μ loc st a w) {s:SV} {v:Value} (h:mc st s=true) (k:c8 μ loc s v):v.oneCell'=true∧v.cells= #[v]:=by
 cases s with
 |undef=>simp [mc] at h
 |any=>simp [mc] at h
 |pv x=>
  cases x with
  |agg cs=>simp [mc] at h
  |dI cs=>simp [mc] at h
  |self n=>simp only [c8,rep] at k
  |tX=>simp only [c8,rep] at k;subst k;exact ⟨rfl,rfl⟩
  |lE=>simp only [c8,rep] at k;subst k;exact ⟨rfl,rfl⟩
  |hole=>simp only [c8,rep] at k;exact k
  |bool b=>simp only [c8,rep] at k;subst k;exact ⟨rfl,rfl⟩
  |int q n=>simp only [c8,rep] at k;subst k;exact ⟨rfl,rfl⟩
  |str q=>simp only [c8,rep] at k;subst k;exact ⟨rfl,rfl⟩
  |aW sz xs=>simp only [c8,rep] at k;obtain ⟨A,c,rfl,_⟩:=k;exact ⟨rfl,rfl⟩
  |fn f caps=>simp only [c8,rep] at k;obtain ⟨vs,rfl,_⟩:=k;exact ⟨rfl,rfl⟩
  |ref cs=>simp only [c8,rep] at k;obtain ⟨b,off,vs,rfl,_⟩:=k;exact ⟨rfl,rfl⟩
  |mp ks es=>simp only [c8,rep] at k;rcases k with ⟨rfl,_⟩|⟨b,kv,ev,rfl,_⟩<;>exact ⟨rfl,rfl⟩
 |ptr id off=>obtain ⟨b,_,rfl⟩:=k;exact ⟨rfl,rfl⟩
 |row id=>
  simp only [mc] at h;split at h
  ·rename_i e sz xs cu
   have hb:=eO (hR.obs id _ cu);obtain ⟨vs,hown,_⟩:=hR.obs id _ cu;have e:v=cV (loc id):=k;rw [hb] at e;rcases hown.2 with ⟨e1,_⟩|⟨g,cap,cur,e1,_⟩
   ·rw [e,e1];exact ⟨rfl,rfl⟩
   ·rw [e,e1];exact ⟨rfl,rfl⟩
  ·rename_i k' e' ks vs cu
   obtain ⟨b,cN,clock,hl,_⟩:=hR.obs id _ cu;have e:v=cV (loc id):=k;rw [e,hl];exact ⟨rfl,rfl⟩
  ·rename_i e' sz q e2 s2 xs ys cu
   obtain ⟨m,us,vs,hl,_,hown,_⟩:=hR.obs id _ cu;have e:v=m:=(show v=cV (loc id) from k).trans (by rw [hl];rfl);rcases hown.2 with ⟨e1,_⟩|⟨g,cap,cur,e1,_⟩
   ·rw [e,e1];exact ⟨rfl,rfl⟩
   ·rw [e,e1];exact ⟨rfl,rfl⟩
  ·cases h
 |rp id sz i off=>obtain ⟨g,n,c,_,rfl⟩:=k;exact ⟨rfl,rfl⟩
 |sub id sz lo hi=>simp [mc] at h
 |two s b=>simp [mc] at h
 |cp cs=>obtain ⟨b,off,vs,rfl,_⟩:=k;exact ⟨rfl,rfl⟩
 |cl f caps=>
  obtain ⟨vs,rfl,_⟩:=k;unfold Ws;cases Nat.blt f 1000000 with
  |true=>exact ⟨rfl,rfl⟩
  |false=>
   cases Nat.blt f 2000000 with
   |true=>exact ⟨rfl,rfl⟩
   |false=>simp only [cond_false];split<;>exact ⟨rfl,rfl⟩
 |ag caps=>simp [mc] at h
 | «at» j q=>simp [mc] at h
theorem mK {loc:Nat→Value}:∀{caps:List jJ} {vs:List Value},fU μ loc caps vs→eM μ loc (caps.map Cm) vs
 |[],vs,h=>h
 |c::cs,vs,⟨u,us,e,h1,h2⟩=>by
  refine ⟨u,us,e,?_,mK h2⟩;cases c with
  |v a=>exact h1
  |p id=>exact h1
  |r id=>exact h1
theorem Gp (hR:Rel N w0 μ0 L μ loc st a w) {t:TypeId} {len:Nat} {parts:Array (Nat×Operand)} {e:TypeId} {s:Nat} {xs:List (List AV)} (h:gr P t len parts.toList st=some (e,s,xs)):
  ∃vs:List Value,(Instr.buildSlice t len (parts.map fun p=>(p.1,a.eval p.2))).run P w= .ok (.slice (some ⟨w.heap.size,0,none⟩) len len) (w.alloc (.cells vs.toArray e))∧bZ μ s xs vs∧xs.length=len∧len≤maxLen∧0<s:=by
 unfold gr at h;split at h
 ·rename_i e' s' hs
  obtain ⟨hu,inf,iN,hsz⟩:=dV hs;split at h
  ·rename_i z ps hz hps
   split at h
   ·rename_i hc
    obtain ⟨hlen,hpos,hzl,hnt⟩:=hc;cases hf:rM (fun i=>some (i *s',s')) (nY z len) ps with
    |none=>simp [hf] at h
    |some cs=>
     simp [hf] at h;obtain ⟨rfl,rfl,rfl⟩:=h;obtain ⟨i,v,hi,hv,WA⟩:=kO (μ:=μ) hz;rw [iN] at hi;injection hi with hi;subst hi
     obtain ⟨h1,h2⟩:=rz hR hps;have Vv:v.cells.size=s':=by have:=WA.length;simpa [hzl] using this
     obtain ⟨ws,hw,hr⟩:=wv (us:=parts.toList.map fun p=>(p.1,a.eval p.2)) hf (yC WA len) (by simpa [List.map_map,Function.comp_def] using h1) (by simpa [List.map_map,Function.comp_def] using h2) (fun p hp x e=>by
      have:=List.all_eq_true.1 hnt p hp
      rw [e] at this;cases this)
     have Bg:cs.length=len *s':=by
      have key:∀(ps:List (Nat×AV)) (cells cs:List AV),rM (fun i=>some (i *s',s')) cells ps=some cs→cs.length=cells.length:=by
       intro ps
       induction ps with
       |nil=>intro cells cs h;simp [rM] at h;rw [h]
       |cons p ps ih=>
        intro cells cs h;obtain ⟨j,x⟩:=p;simp only [rM] at h;split at h
        ·rename_i dc
         rw [ih _ _ h];simp only [List.length_append,List.length_take,List.length_drop];omega
        ·cases h
      rw [key _ _ _ hf,tS,hzl]
     refine ⟨ws,?_,tT len hr Bg,vH _ _ _,by simp only [maxLen];have:len *1≤len *s':=Nat.mul_le_mul_left _ hpos;omega,hpos⟩;have hmade:(List.replicate len v.cells.toList).flatten.toArray=madeCells v.cells (len *s'):=by
      rw [←oH v.cells s' Vv hpos len]
     rw [hmade] at hw;by_cases h0:len *s'=0
     ·have hle:¬(len *s'>16777216):=by omega
      have e0:madeCells v.cells (len *s')= #[]:=by rw [h0];simp [madeCells,Array.range_zero']
      rw [e0] at hw;simp [Instr.buildSlice,run_underlying hu,sizeOf,typeInfo,iN,hsz,h0,hw,newRow,Array.range_zero']
     ·have hle:¬(len *s'>16777216):=by omega
      simp only [madeCells] at hw;simp [Instr.buildSlice,run_underlying hu,sizeOf,typeInfo,iN,hsz,h0,zeroValue,hv,hw,newRow,hlen]
   ·cases h
  ·cases h
 ·cases h
theorem FZ {o:Oper} {t:TypeId} {len:Nat} {parts:Array (Nat×Operand)} {d e s:Nat} {xs:List (List AV)} (hR:Rel N w0 μ0 L μ loc st a w) (hd:d<N) (cv:o.dst=some d) (ho:o.op= .buildSlice t len parts)
  (h:gr P t len parts.toList st=some (e,s,xs)) (hK:iU N w0 μ0 L ((st.new d (.row e s xs)).set (some d) (.row d)) K):o.pE P a w K Q:=by
 obtain ⟨vs,hr,hrc,hxl,hml,hpos⟩:=Gp (P:=P) hR h;refine dY (v:= .slice (some ⟨w.heap.size,0,none⟩) len len) (w':=w.alloc (.cells vs.toArray e)) (by unfold execOp;rw [ho];simp [hr]) ?_;rw [cv];refine hK _ _ _ _ (hR.made hd (by simp [fE,aU,eq_comm]) ?_ (Dy rfl));refine ⟨vs,⟨by rw [cg hrc], .inr ⟨w.heap.size,len,vs.toArray,?_,Nat.zero_le _,heap_alloc_new w _,by omega,hml,?_,?_⟩⟩,hrc,fun g hg=> ?_⟩
 ·rw [bN,hxl]
 ·simp [cg hrc,hxl]
 ·rw [hxl,←hxl,←cg hrc];simp
 ·rw [bN] at hg
  simp [fE,aU] at hg;subst hg;exact ⟨.inl hR.grown,qp hR _ (Nat.le_refl _)⟩
theorem s7 {k:Nat} {c:List AV} (h:kQ k c=true):c[k]? =some .lE:=by
 unfold kQ at h;split at h
 ·assumption
 ·cases h
theorem qy {sz k:Nat}:∀{xs:List (List AV)} {vs:List Value},bZ μ sz xs vs→xs.all (kQ k)=true→k<sz→bZ μ sz (xs.map fun c=>c.set k .hole) vs∧∀i,i<xs.length→vs[i *sz+k]? =some (.slice none 0 0)
 |[],vs,h,_,_=>⟨h,fun i hi=>by simp at hi⟩
 |x::xs,vs,⟨us,ws,e,h1,h2,h3⟩,hall,hk=>by
  subst e;simp only [List.all_cons,Bool.and_eq_true] at hall;have hx:=s7 hall.1;obtain ⟨r1,r2⟩:=qy h3 hall.2 hk;obtain ⟨v,hv,hr⟩:=nk h1.1 hx;simp only [rep] at hr;subst hr;refine ⟨⟨us,ws,rfl,⟨Du h1.1 hv (by simp [rep,Value.oneCell',Value.cells]),h1.2⟩,h2,r1⟩,fun i hi=> ?_⟩;cases i with
  |zero=>rw [Nat.zero_mul,Nat.zero_add,List.getElem?_append_left (by omega)];exact hv
  |succ i=>
   rw [List.getElem?_append_right (by rw [h2,Nat.succ_mul];omega),show (i+1) *sz+k-us.length=i *sz+k by rw [h2,Nat.succ_mul];omega];exact r2 i (by simpa using hi)
theorem Ej {o:Oper} {t:TypeId} {len:Nat} {parts:Array (Nat×Operand)} {d e s k e' s':Nat} {xs:List (List AV)} (hR:Rel N w0 μ0 L μ loc st a w) (hd:d<N) (cv:o.dst=some d) (ho:o.op= .buildSlice t len parts)
  (h:gr P t len parts.toList st=some (e,s,xs)) (hk:k<s) (hall:xs.all (kQ k)=true) (hK:iU N w0 μ0 L ((st.new d (.rn e s k e' s' (xs.map fun c=>c.set k .hole) (xs.map fun _=>some []))).set (some d) (.row d)) K):o.pE P a w K Q:=by
 obtain ⟨vs,hr,hrc,hxl,hml,hpos⟩:=Gp (P:=P) hR h;obtain ⟨x4,CG⟩:=qy hrc hall hk;refine dY (v:= .slice (some ⟨w.heap.size,0,none⟩) len len) (w':=w.alloc (.cells vs.toArray e)) (by unfold execOp;rw [ho];simp [hr]) ?_;rw [cv];have hown:(w.alloc (.cells vs.toArray e)).ownsRow 0 e s (.slice (some ⟨w.heap.size,0,none⟩) len len) len vs:=
  ⟨by rw [cg hrc,hxl], .inr ⟨w.heap.size,len,vs.toArray,rfl,Nat.zero_le _,heap_alloc_new w _,by omega,hml,by simp [cg hrc,hxl],by rw [←hxl,←cg hrc];simp⟩⟩
 refine hK _ _ _ _ (hR.made' (val:= .tuple (.slice (some ⟨w.heap.size,0,none⟩) len len::xs.map fun _=> .slice none 0 0).toArray) hd (fun g hg=> ?_) ?_ (W5 rfl))
 ·rcases fP.1 hg with hg|⟨u,hu,hg⟩
  ·simp [aU] at hg;exact hg.symm
  ·obtain ⟨c,_,rfl⟩:=List.mem_map.1 hu;simp [aU] at hg
 ·refine ⟨_,_,vs,bN _ _ _,fun q hq=> ?_,by rw [List.length_map,hxl];exact hown,x4,⟨hk,fun c hc=> ?_⟩,by simp,by simp,fun i zs hi=> ?_,fun i hi=> ?_,fun u hu g hg=> ?_,fun i j u v hu hv hij g hg=> ?_⟩
  ·simp [aU] at hq;subst hq
   exact ⟨.inl hR.grown,qp hR _ (Nat.le_refl _)⟩
  ·obtain ⟨c',Bq,rfl⟩:=List.mem_map.1 hc
   have:=s7 (List.all_eq_true.1 hall c' Bq);rw [List.getElem?_set_self (List.getElem?_eq_some_iff.1 this).1]
  ·simp only [List.getElem?_map,Option.map_eq_some_iff] at hi
   obtain ⟨c,hc,e1⟩:=hi;simp only [Option.some.injEq] at e1;subst e1;exact ⟨.slice none 0 0,[],by simp [hc],CG i (List.getElem?_eq_some_iff.1 hc).1,⟨by simp, .inl ⟨rfl,rfl⟩⟩,rfl,fun g hg=>by simp [aU] at hg⟩
  ·simp only [List.getElem?_map,Option.map_eq_some_iff] at hi
   obtain ⟨c,_,e1⟩:=hi;cases e1
  ·obtain ⟨c,_,rfl⟩:=List.mem_map.1 hu;simp [aU] at hg
  ·simp only [List.getElem?_map,Option.map_eq_some_iff] at hu
   obtain ⟨c,_,rfl⟩:=hu;simp [aU] at hg
theorem LQ {o:Oper} {t:TypeId} {len:Nat} {parts:Array (Nat×Operand)} {e s:Nat} {xs:List (List AV)} (hR:Rel N w0 μ0 L μ loc st a w) (hd:∀i,o.dst=some i→i<N) (ho:o.op= .buildSlice t len parts)
  (h:gr P t len parts.toList st=some (e,s,xs)) (hK:iU N w0 μ0 L (st.set o.dst (.pv (.aW s xs))) K):o.pE P a w K Q:=by
 obtain ⟨vs,hr,hrc,hxl,hml,hpos⟩:=Gp (P:=P) hR h;refine dY (v:= .slice (some ⟨w.heap.size,0,none⟩) len len) (w':=w.alloc (.cells vs.toArray e)) (by unfold execOp;rw [ho];simp [hr]) ?_
 let μ':Mu:=fun b j=>if b=w.heap.size then vs[j]? else μ b j
 have hnone:=qp hR;have hle:μ.le μ':=fun b j v hv=>by
  by_cases hb:b=w.heap.size
  ·subst hb;rw [hnone _ (Nat.le_refl _) j] at hv;cases hv
  ·simpa [μ',hb] using hv
 have h1:=hR.grow (w':=w.alloc (.cells vs.toArray e)) (μ':=μ') ⟨hle,fun b j v hv=>by
   by_cases hb:b=w.heap.size
   ·exact .inr (by omega)
   ·exact .inl (by simpa [μ',hb] using hv)⟩ (fun b j v hv=>by
   by_cases hb:b=w.heap.size
   ·subst hb
    have CK:vs[j]? =some v:=by simpa [μ'] using hv
    exact n9 (by simp [CK]) (gO hrc v (List.mem_of_getElem? CK))
   ·have CK:μ b j=some v:=by simpa [μ',hb] using hv
    exact hR.Kq (lq w _) b j v CK) (lq w _)
 refine hK _ _ _ _ (h1.set hd ?_);show rep μ' (.aW s xs) _;rw [rep];refine ⟨_,len,by rw [hxl],by omega,hml, .inr ⟨w.heap.size,0,rfl,ow hrc hle fun j u hu=> ?_⟩⟩;simpa [μ'] using hu
theorem RQ {o:Oper} {t:TypeId} {l c:Operand} {d e s:Nat} {kl kc:IntKind} {nl nc:Int} {z:List AV} {i:TypeInfo} (hR:Rel N w0 μ0 L μ loc st a w) (hd:d<N) (cv:o.dst=some d) (ho:o.op= .makeSlice t l c)
  (hs:isSlice P t=some (e,s)) (hl:(aR P 0 st l).bind eR =some (.int kl nl)) (hc:(aR P 0 st c).bind eR =some (.int kc nc)) (hz:zeroCells P e=some z) (hi:P.info? e=some i)
  (dc:0<s∧z.length=s∧0≤nl∧nl≤nc∧i.bytes *nc.toNat≤281474976710656∧nc≤9223372036854775807)
  (hK:iU N w0 μ0 L ((st.new d (.row e s (List.replicate nl.toNat z))).set (some d) (.row d)) K):o.pE P a w K Q:=by
 obtain ⟨hpos,hzl,h0,hlc,hby,h63⟩:=dc;obtain ⟨hu,inf,iN,hsz⟩:=dV hs;rw [iN] at hi;injection hi with hi;subst hi
 obtain ⟨i',v,hi',hv,WA⟩:=kO (μ:=μ) hz;rw [iN] at hi';injection hi' with hi';subst hi'
 have Vv:v.cells.size=s:=by have:=WA.length;simpa [hzl] using this
 have hlv:=dr hR hl;have Uv:=dr hR hc;rw [rep] at hlv Uv;have hby':(inf.bytes:Int) *nc≤281474976710656:=by
  have e1:((inf.bytes *nc.toNat:Nat):Int)≤281474976710656:=by omega
  rw [Int.natCast_mul,Int.toNat_of_nonneg (by omega)] at e1;exact e1
 have hr:=run_make (P:=P) w t e inf v hu iN hv kl kc nl nc h0 hlc hby' h63;refine dY (v:= .slice (some ⟨w.heap.size,0,none⟩) nl.toNat nc.toNat) (w':=w.alloc (.cells (madeCells v.cells (nc.toNat *inf.size)) e)) (by unfold execOp;rw [ho];simp [hlv,Uv,hr]) ?_;rw [cv];refine hK _ _ _ _ (hR.made hd (by simp [fE,aU,eq_comm]) ?_ (Dy rfl));have hrc:=kZ (sz:=s) WA (by simpa using Vv) nl.toNat;refine ⟨_,⟨cg hrc, .inr ⟨w.heap.size,nc.toNat,_,?_,Nat.zero_le _,heap_alloc_new w _,?_,?_,?_,?_⟩⟩,hrc,fun g hg=> ?_⟩
 ·rw [bN];simp
 ·simp;omega
 ·simp only [maxLen];omega
 ·rw [size_madeCells,hsz]
 ·rw [hsz,oH v.cells s Vv hpos]
  have:=IA v.cells.toList (l:=nl.toNat) (c:=nc.toNat) (by omega);simp only [Array.length_toList,Vv] at this;simp only [List.length_replicate];exact this
 ·rw [bN] at hg
  simp [fE,aU] at hg;subst hg;exact ⟨.inl hR.grown,qp hR _ (Nat.le_refl _)⟩
theorem Ve {o:Oper} {d e s:Nat} (hR:Rel N w0 μ0 L μ loc st a w) (hd:d<N) (cv:o.dst=some d) (ho:o.op= .assign (.const (.slice none 0 0)))
  (hK:iU N w0 μ0 L ((st.new d (.row e s [])).set (some d) (.row d)) K):o.pE P a w K Q:=by
 refine dY (v:= .slice none 0 0) (w':=w) (by unfold execOp;rw [ho];rfl) ?_;rw [cv];refine hK _ _ _ _ ((hR.new (id:=d) (val:= .slice none 0 0) (o:= .row e s []) (.inl (Nat.lt_of_lt_of_le hd hR.small)) ?_ (fun j oj hj hne g hg=>by simp [fE,aU] at hg)).set (fun i hi=>by injection hi with hi;omega) (Dy rfl));refine ⟨[],⟨by simp, .inl ⟨bN _ _ _,rfl⟩⟩,rfl,fun g hg=> ?_⟩;rw [bN] at hg;simp [fE,aU] at hg
theorem DA {t e ty:TypeId} {inf:TypeInfo} {v:Value} (hu:P.underlying t=some (.slice e)) (iN:P.info? e=some inf) (hv:inf.zero=some v) {ad:Addr} {n c:Nat} (hn:0<n) {w':World} (hsc:(storeCells ad (Builtin.zeroCells v.cells n).toList).run P w= .ok () w'):
  (Builtin.clear_ #[t] ty #[.slice (some ad) n c]).run P w= .ok (.tuple #[]) w':=by
 obtain ⟨k,rfl⟩:∃k,n=k+1:=⟨n-1,by omega⟩
 simp [Builtin.clear_,run_underlying hu,zeroValue,typeInfo,iN,hv,hsc]
theorem Pj {o:Oper} {c:Call} {t e e':TypeId} {s id sz sz' lo hi:Nat} {x:Operand} {xs:List (List AV)} {z:List AV} (hR:Rel N w0 μ0 L μ loc st a w) (cv:o.dst=none) (ho:o.op= .call c) (hc:c.callee= .builtin .clear) (ha:c.args.toList=[x]) (ht:c.argTypes.toList=[t])
  (hs:isSlice P t=some (e,s)) (hx:aR P t st x=some (.sub id sz lo hi)) (cu:st.ob id=some (.row e' sz' xs)) (hz:zeroCells P e=some z) (dc:s=sz∧sz=sz'∧z.length=sz∧hi≤xs.length∧e=e'∧0<sz)
  (hK:iU N w0 μ0 L { st with ob:=put st.ob id (some (.row e' sz' (xs.take lo++List.replicate (hi-lo) z++xs.drop hi))) } K):o.pE P a w K Q:=by
 obtain ⟨rfl,rfl,hzl,hhi,rfl,hpos⟩:=dc;obtain ⟨callee,⟨args⟩,⟨argTypes⟩⟩:=c;simp only at hc ha ht;subst hc;subst ha;subst ht;obtain ⟨hu,inf,iN,hsz⟩:=dV hs;obtain ⟨A,n,cp,A',c',iB,hlo,hhn,hcc,pH,_,hg⟩:=aI hR hx;obtain ⟨vs,hown,hrc,hm⟩:=hR.obs id _ cu;by_cases hlt:lo<hi
 ·obtain ⟨g,rfl,rfl⟩:=hg hlt
  obtain ⟨cap,cur,hloc',hheap,hnc,hcm,hcs,rN⟩:∃cap cur,loc id= .slice (some ⟨g,0,none⟩) xs.length cap∧w.heap[g]? =some (.cells cur e (0,0))∧xs.length≤cap∧cap≤maxLen∧cur.size=cap *s∧cur.toList.take (xs.length *s)=vs:=by
   rcases hown.2 with ⟨_,e2⟩|⟨g',cap,cur,e1,_,h2,h3,h4,h5,h6⟩
   ·omega
   ·rw [iB] at e1
    simp only [Value.slice.injEq,Option.some.injEq,Addr.mk.injEq,and_true] at e1;obtain ⟨rfl,rfl,rfl⟩:=e1;exact ⟨cp,cur,iB,h2,h3,h4,h5,h6⟩
  obtain ⟨i',v,hi',hv,WA⟩:=kO (μ:=μ) hz;rw [iN] at hi';injection hi' with hi';subst hi'
  have Vv:v.cells.size=s:=by have:=WA.length;simpa [hzl] using this
  have hzs:(Builtin.zeroCells v.cells (hi-lo)).toList=(List.replicate (hi-lo) v.cells.toList).flatten:=by
   rw [←oH v.cells s Vv hpos (hi-lo)];simp [Builtin.zeroCells,madeCells,Vv]
  have Sq:=kZ (sz:=s) WA (by simpa using Vv) (hi-lo);have uw:((List.replicate (hi-lo) v.cells.toList).flatten).length=(hi-lo) *s:=by have:=cg Sq;simpa using this
  have hvl:=cg hrc;have Bg:xs.length *s≤cur.size:=by rw [hcs];exact Nat.mul_le_mul_right _ hnc
  have hmul:lo *s+(hi-lo) *s=hi *s:=by rw [←Nat.add_mul];congr 1;omega
  have hhis:hi *s≤xs.length *s:=Nat.mul_le_mul_right _ hhi;have hsc:=run_storeCells_at P g (lo *s) e (List.replicate (hi-lo) v.cells.toList).flatten 0 cur w hheap (by rw [uw];omega) (gO Sq);simp only [Nat.add_zero,uw] at hsc;have x4:=jd (jd (nH hrc lo) Sq) (vS hrc hi);have Yv:(xs.take lo++List.replicate (hi-lo) z++xs.drop hi).length=xs.length:=by simp;omega
  have hrun:=DA (P:=P) (ty:=o.type) (c:=c') (n:=hi-lo) hu iN hv (by omega) (by rw [hzs];exact hsc)
  refine dY (v:= .tuple #[]) (w':=w.setRow g (cur.toList.take (lo *s)++(List.replicate (hi-lo) v.cells.toList).flatten++cur.toList.drop (lo *s+(hi-lo) *s)).toArray) (by
   unfold execOp;rw [ho];simp only [resolve,invoke,builtin,Sem.run_bind,Sem.run_pure,Result.andThen_ok,pH,List.map_toArray,List.map_cons,List.map_nil]
   simp only [hrun,Result.andThen_ok]) ?_
  rw [cv];refine hK _ _ _ _ (hR.write cu (g:=g) (by rw [iB];exact eG.2 rfl) (fun k hk=>setRow_other w g k _ hk) rfl rfl rfl (by simp) ?_);refine ⟨_,⟨?_, .inr ⟨g,cap,_,?_,Nat.zero_le _,setRow_heap w g cur _ e _ hheap,?_,hcm,?_,?_⟩⟩,x4,fun g' hg'=>hm g' hg'⟩
  ·rw [cg x4]
  ·rw [Yv];exact hloc'
  ·rw [Yv];exact hnc
  ·simp only [List.size_toArray,List.length_append,List.length_take,List.length_drop,Array.length_toList,uw];omega
  ·rw [Yv,←rN]
   have hb:hi *s≤cur.toList.length:=by simp;omega
   have ha:lo *s≤hi *s:=Nat.mul_le_mul_right _ (by omega);rw [hmul,List.take_take,Nat.min_eq_left (by omega),List.drop_take];have hl1:(cur.toList.take (lo *s)++(List.replicate (hi-lo) v.cells.toList).flatten).length=hi *s:=by rw [List.length_append,List.length_take,uw];omega
   generalize hq:cur.toList.take (lo *s)++(List.replicate (hi-lo) v.cells.toList).flatten=q at hl1;show List.take (xs.length *s) (q++List.drop (hi *s) cur.toList)=q++_;rw [List.take_append,List.take_of_length_le (by omega),hl1]
 ·have h0:hi-lo=0:=by omega
  have e0:xs.take lo++List.replicate (hi-lo) z++xs.drop hi=xs:=by
   rw [h0,show lo=hi from by omega];simp
  rw [e0] at hK
  refine dY (v:= .tuple #[]) (w':=w) (by
   unfold execOp;rw [ho];simp [resolve,invoke,builtin,pH,h0,Builtin.clear_,run_underlying hu]
   cases A'<;>simp) ?_
  rw [cv];refine hK _ _ μ loc ?_;have:put st.ob id (some (.row e s xs))=st.ob:=by
   funext i
   by_cases e:id=i
   ·subst e;rw [bH,cu]
   ·rw [aQ _ _ e]
  rw [this];exact hR
theorem Cq {o:Oper} {t:TypeId} {x y:Operand} {sa sv:SV} (hR:Rel N w0 μ0 L μ loc st a w) (cv:o.dst=none) (ho:o.op= .store t x y)
  (QX:c8 μ loc sa (a.eval x)) (yR:c8 μ loc sv (a.eval y)) (h:storeAt P t st sa sv=some st') (hK:iU N w0 μ0 L st' K):o.pE P a w K Q:=by
 have fin:∀(ad:Addr) (w':World),a.eval x= .pointer (some ad)→(storeVar t ad (a.eval y)).run P w= .ok () w'→Rel N w0 μ0 L μ loc st' a w'→o.pE P a w K Q:=fun ad w' e hr uo=>by
  refine yP (w':=w') ?_ (by rw [cv];exact hK _ _ _ _ uo);unfold execOp;rw [ho];simp only [Instr.storeAt,e,Instr.sureAddr,Sem.run_bind,Sem.run_pure,Result.andThen_ok,hr]
 unfold storeAt at h;split at h
 ·rename_i id off
  obtain ⟨b,hl,QX⟩:=QX;split at h
  ·rename_i bt cells n cu hsz
   obtain ⟨b',vs,hl',Zp,hheap,oc,hss,h1⟩:=hR.obs id _ cu;rw [hl] at hl';simp only [Value.pointer.injEq,Option.some.injEq,Addr.mk.injEq,and_true] at hl';subst hl';have hlen:=j5 hss;have XT:∀(us:List Value) (sus:List SV),(a.eval y).cells.toList=us→us.length=n→off+n≤vs.length→(∀u∈us,u.oneCell'=true)→eM μ loc sus us→
     st'={ st with ob:=put st.ob id (some (.box bt (cells.take off++sus++cells.drop (off+n)))) }→o.pE P a w K Q:=by
    intro us sus lI uw hle hone hsus hst;have hsc:=run_storeCells_at P b off bt us 0 vs.toArray w hheap (by simp;omega) hone;simp only [Nat.add_zero] at hsc
    refine fin ⟨b,off,none⟩ _ QX (by
     have:(a.eval y).cells.size=n:=by rw [←uw,←lI];simp
     simp only [storeVar,Sem.run_bind,gl hsz,Result.andThen_ok,this,ne_eq,not_true_eq_false,if_false,Sem.run_pure,lI]
     exact hsc) ?_
    rw [hst];refine hR.write cu (g:=b) (by rw [hl];exact kP.2 rfl) (fun k hk=>setRow_other w b k _ hk) rfl rfl rfl (by simp) ?_;refine ⟨b,vs.take off++us++vs.drop (off+n),hl,Zp,?_,oc,?_,?_⟩
    ·have:=setRow_heap w b vs.toArray (vs.toArray.toList.take off++us++vs.toArray.toList.drop (off+us.length)).toArray bt (0,0) hheap
     simpa [uw] using this
    ·exact iY (iY (wX hss off) hsus) (wW hss (off+n))
    ·intro u hu
     simp only [List.mem_append] at hu;rcases hu with (hu|hu)|hu
     ·exact h1 u (List.mem_of_mem_take hu)
     ·exact hone u hu
     ·exact h1 u (List.mem_of_mem_drop hu)
   split at h
   ·rename_i cs
    split at h
    ·rename_i dc
     injection h with h
     obtain ⟨us,e,hall,hone⟩:=yR;have hs:=mK hall;exact XT us (cs.map Cm) (by rw [e];rfl) (by rw [j5 hs,List.length_map];exact dc.1) (by omega) hone hs h.symm
    ·cases h
   ·rename_i cs
    split at h
    ·rename_i dc
     injection h with h
     have Et:=yR;simp only [c8,rep] at Et;obtain ⟨us,e,hall,hone⟩:=Et;exact XT us (cs.map .pv) (by rw [e];rfl) (by rw [ji hall];exact dc.1) (by omega) hone (mq hall) h.symm
    ·cases h
   ·split at h
    ·rename_i dc
     injection h with h
     obtain ⟨ho1,hc1⟩:=M1 hR dc.2.2 yR;refine XT [a.eval y] [sv] (by rw [hc1]) (by simp [dc.1]) (by omega) (by simpa using ho1) ⟨_,[],rfl,yR,rfl⟩ ?_;rw [←h,dc.1,List.set_eq_take_append_cons_drop,if_pos dc.2.1];simp
    ·cases h
  ·cases h
 ·rename_i id sz i off
  obtain ⟨g,n',cp,hl,QX⟩:=QX;split at h
  ·rename_i e sz' xs n v cu hsz
   split at h
   ·rename_i c hg
    split at h
    ·rename_i dc
     obtain ⟨rfl,hvl,hle,hnt⟩:=dc;injection h with h
     rw [eO (hR.obs id _ cu)] at hl;obtain ⟨vs,hown,hrc,hm⟩:=hR.obs id _ cu;have hil:i<xs.length:=(List.getElem?_eq_some_iff.1 hg).1;obtain ⟨cap,cur,iB,hheap,hnc,hcm,hcs,rN⟩:∃cap cur,loc id= .slice (some ⟨g,0,none⟩) xs.length cap∧w.heap[g]? =some (.cells cur e (0,0))∧xs.length≤cap∧cap≤maxLen∧cur.size=cap *sz∧cur.toList.take (xs.length *sz)=vs:=by
      rcases hown.2 with ⟨_,e2⟩|⟨g',cap,cur,e1,_,h2,h3,h4,h5,h6⟩
      ·omega
      ·rw [hl] at e1
       simp only [Value.slice.injEq,Option.some.injEq,Addr.mk.injEq,and_true] at e1;obtain ⟨rfl,rfl,rfl⟩:=e1;exact ⟨cp,cur,hl,h2,h3,h4,h5,h6⟩
     have hyc:fT μ v.cells (a.eval y).cells.toList:=Fl (show rep μ v (a.eval y) from yR) (fun z e=>by rw [e] at hnt;cases hnt);have uw:(a.eval y).cells.toList.length=n:=by rw [hyc.length];exact hvl
     have key:∀(xs:List (List AV)) (vs:List Value) (i:Nat) (c:List AV),bZ μ sz xs vs→xs[i]? =some c→off+n≤c.length→
       bZ μ sz (xs.set i (c.take off++v.cells++c.drop (off+n))) (vs.take (i *sz+off)++(a.eval y).cells.toList++vs.drop (i *sz+off+n))∧i *sz+off+n≤vs.length:=by
      intro xs
      induction xs with
      |nil=>intro vs i c _ h;simp at h
      |cons x xs ih=>
       intro vs i c hrc hx hle;obtain ⟨us,ws,rfl,k1,k2,k3⟩:=hrc;cases i with
       |zero=>
        simp at hx;subst hx;have hxl:=k1.length;refine ⟨?_,by simp;omega⟩;refine ⟨us.take off++(a.eval y).cells.toList++us.drop (off+n),ws,?_,((k1.take off).append hyc).append (k1.drop (off+n)),?_,k3⟩
        ·simp only [Nat.zero_mul,Nat.zero_add]
         rw [List.take_append_of_le_length (by omega),List.drop_append_of_le_length (by omega)];simp [List.append_assoc]
        ·simp only [List.length_append,List.length_take,List.length_drop,uw];omega
       |succ i=>
        simp at hx;obtain ⟨r1,r2⟩:=ih ws i c k3 hx hle;refine ⟨?_,by simp [Nat.add_mul,k2];omega⟩;refine ⟨us,ws.take (i *sz+off)++(a.eval y).cells.toList++ws.drop (i *sz+off+n),?_,k1,k2,r1⟩
        rw [show (i+1) *sz+off=us.length+(i *sz+off) from by rw [Nat.add_mul,k2];omega,List.take_length_add_append,
         show us.length+(i *sz+off)+n=us.length+(i *sz+off+n) from by omega,List.drop_length_add_append]
        simp [List.append_assoc]
     obtain ⟨x4,hle'⟩:=key xs vs i c hrc hg hle;have hvl':=cg hrc;have Bg:xs.length *sz≤cur.size:=by rw [hcs];exact Nat.mul_le_mul_right _ hnc
     have hsc:=run_storeCells_at P g (i *sz+off) e (a.eval y).cells.toList 0 cur w hheap (by rw [uw];omega) hyc.2;simp only [Nat.add_zero,uw] at hsc
     refine fin ⟨g,i *sz+off,none⟩ _ QX (by
      have:(a.eval y).cells.size=n:=by simpa using uw
      simp only [storeVar,Sem.run_bind,gl hsz,Result.andThen_ok,this,ne_eq,not_true_eq_false,if_false,Sem.run_pure]
      exact hsc) ?_
     rw [←h];refine hR.write cu (g:=g) (by rw [hl];exact eG.2 rfl) (fun k hk=>setRow_other w g k _ hk) rfl rfl rfl (by simp) ?_;refine ⟨_,⟨?_, .inr ⟨g,cap,_,?_,Nat.zero_le _,setRow_heap w g cur _ e _ hheap,?_,hcm,?_,?_⟩⟩,x4,fun g' hg'=>hm g' hg'⟩
     ·rw [cg x4]
     ·simpa using iB
     ·simpa using hnc
     ·simp only [List.size_toArray,List.length_append,List.length_take,List.length_drop,Array.length_toList,uw];omega
     ·simp only [List.length_set]
      have hvl2:vs.length≤cur.toList.length:=by simp;omega
      rw [show vs.take (i *sz+off)=cur.toList.take (i *sz+off) from by rw [←rN,List.take_take,Nat.min_eq_left (by omega)],
       show vs.drop (i *sz+off+n)=(cur.toList.drop (i *sz+off+n)).take (xs.length *sz-(i *sz+off+n)) from by rw [←rN,List.drop_take]]
      rw [List.take_append,List.take_of_length_le (by simp [uw];omega)]
      congr 2
      simp only [List.length_append,List.length_take,Array.length_toList,uw];omega
    ·cases h
   ·cases h
  ·cases h
 ·cases h
theorem Pp {o:Oper} {t:TypeId} {x y:Operand} {sa sv:SV} (hR:Rel N w0 μ0 L μ loc st a w) (cv:o.dst=none) (ho:o.op= .store t x y)
  (hx:aR P 0 st x=some sa) (hy:aR P t st y=some sv) (h:storeAt P t st sa sv=some st') (hK:iU N w0 μ0 L st' K):o.pE P a w K Q:=
 Cq hR cv ho (aI hR hx) (aI hR hy) h hK
theorem Jm {o:Oper} {t:TypeId} {x y:Operand} {id off j sz n:Nat} (hR:Rel N w0 μ0 L μ loc st a w) (cv:o.dst=none) (ho:o.op= .store t x y) (hx:aR P 0 st x=some (.ptr id off)) (hy:aR P t st y=some (.sub j sz 0 n))
  (h:NV P st t id off j sz n=some st') (hK:iU N w0 μ0 L st' K):o.pE P a w K Q:=by
 unfold NV at h;split at h
 ·rename_i e sz' xs cu
  cases hb:(Nat.beq sz sz'&&eT j&& !(Nat.beq id j)) with
  |false=>rw [hb] at h;cases h
  |true=>
  rw [hb] at h;simp only [cond_true] at h;simp only [Bool.and_eq_true,Bool.not_eq_true'] at hb;obtain ⟨⟨b1,b2⟩,b3⟩:=hb;have c1:=beq_iff.1 b1;subst c1;have hne:id≠j:=fun e=>by subst e;rw [Nat.beq_refl] at b3;cases b3
  have QX:=aI hR hx;obtain ⟨A,m,c,A',c',hl,_,hnm,_,hu,h0,_⟩:=aI hR hy;obtain ⟨rfl,rfl⟩:=h0 rfl;rw [Nat.sub_zero] at hu;have hid:j<10000∨20000≤j:=by
   simp only [eT,Bool.or_eq_true] at b2;rcases b2 with hm|hm
   ·left;simpa [Nat.blt_eq] using hm
   ·right;exact Nat.le_of_ble_eq_true (Bool.and_eq_true _ _▸hm).1
  have hok:=hR.obs j _ cu;obtain ⟨us,hown,hrc,hm⟩:=hR.obs j _ cu;have hml:m=xs.length:=by
   rcases hown.2 with ⟨e1,e2⟩|⟨q,cap,cur,e1,_⟩
   ·rw [hl] at e1;simp only [Value.slice.injEq] at e1;omega
   ·rw [hl] at e1;simp only [Value.slice.injEq] at e1;exact e1.2.1
  have hblk:∀q,fE (.slice A' n c') q↔fE (loc j) q:=fun q=>by rw [hl,eG,eG];cases A'<;>rfl
  have h2:=hR.new (id:=j) (val:= .slice A' n c') (o:= .row e sz (xs.take n)) hid ?_ (fun k ok hk hkj q hq=>hR.apart j k _ ok cu hk (Ne.symm hkj) q ((hblk q).1 hq))
  ·refine Cq h2 cv ho (sa:= .ptr id off) (sv:= .row j) ?_ ?_ h hK
   ·obtain ⟨b,k1,k2⟩:=QX
    exact ⟨b,by rw [bQ _ _ hne];exact k1,k2⟩
   ·show a.eval y=cV (kT loc j (.slice A' n c') j)
    rw [bN,hu];rfl
  ·have hlen:(xs.take n).length=n:=by simp;omega
   have Gg:=nH hrc n;refine ⟨us.take (n *sz),⟨by rw [cg Gg],?_⟩,Gg,fun q hq=> ?_⟩
   ·rw [bN,hlen]
    rcases hown.2 with ⟨e1,e2⟩|⟨q,cap,cur,e1,k1,k2,k3,k4,k5,k6⟩
    ·rw [hl] at e1
     simp only [Value.slice.injEq] at e1;obtain ⟨rfl,rfl,rfl⟩:=e1;have:n=0:=by omega
     subst this;exact .inl ⟨rfl,rfl⟩
    ·rw [hl] at e1
     simp only [Value.slice.injEq] at e1;obtain ⟨rfl,_,rfl⟩:=e1;refine .inr ⟨q,c',cur,rfl,k1,k2,by omega,k4,k5,?_⟩;rw [←k6,List.take_take,Nat.min_eq_left (Nat.mul_le_mul_right _ (by omega))]
   ·rw [bN,hblk q] at hq
    exact ⟨(hok.block q hq).1,(hm q hq).2⟩
 ·cases h
theorem tV (t ty e:TypeId) (i:TypeInfo) (ht:P.underlying t=some (.slice e)) (hi:P.info? e=some i) (v:Value) (n:Nat) (xs:List Value) (size:Nat) (hown:w.ownsRow 0 e size v n xs) (c:Nat):
  (Builtin.append_ #[t,t] ty #[v, .slice none 0 c]).run P w= .ok v w:=by
 rcases hown.2 with ⟨rfl,rfl⟩|⟨g,cap,cur,rfl,_,_,hnc,_⟩
 ·simp [Builtin.append_,run_underlying ht,sizeOf,typeInfo,hi,Builtin.lenOf,Builtin.firstCells]
 ·simp [Builtin.append_,run_underlying ht,sizeOf,typeInfo,hi,Builtin.lenOf,Builtin.firstCells,hnc,storeCells]
theorem LH {o:Oper} {x y:Operand} {t e:TypeId} {d sz id:Nat} {sy:SV} {xs ys:List (List AV)} {i:TypeInfo} (hR:Rel N w0 μ0 L μ loc st a w) (hd:d<N) (cv:o.dst=some d)
  (ho:o.op= .call { callee:= .builtin .append,args:= #[x,y],argTypes:= #[t,t] }) (hs:isSlice P t=some (e,sz)) (hx:aR P t st x=some (.row id)) (hy:aR P t st y=some sy)
  (cu:st.ob id=some (.row e sz xs)) (hel:elems st sy=some (sz,ys)) (hi:P.info? e=some i) (hpos:0<sz) (hby:(xs.length+ys.length) *i.bytes≤140737488355328) (hlen:xs.length+ys.length≤4611686018427387904)
  (hz:i.zero.map (fun z=>z.cells.size)=some sz) (hid:id<10000∨20000≤id) (hK:iU N w0 μ0 L ((st.new id (.row e sz (xs++ys))).set (some d) (.row id)) K):o.pE P a w K Q:=by
 obtain ⟨hu,inf,iN,hsz⟩:=dV hs;rw [iN] at hi;injection hi with hi;subst hi
 obtain ⟨z,PL,hzs⟩:∃z,inf.zero=some z∧z.cells.size=sz:=by
  cases Uy:inf.zero with
  |none=>simp [Uy] at hz
  |some z=>simp [Uy] at hz;exact ⟨z,rfl,hz⟩
 have pH:a.eval x=loc id:=(aI hR hx:a.eval x=cV (loc id)).trans (eO (hR.obs id _ cu));have yR:=aI hR hy;obtain ⟨vs,hown,hrc,hm⟩:=hR.obs id _ cu;obtain ⟨A,c,Et,us,lI,hsrc⟩:=nP hR hel yR;have uw:=cg lI;obtain ⟨v',w',hrun,uu,hgrow,hblk⟩:∃v' w',(Builtin.append_ #[t,t] o.type #[loc id, .slice A ys.length c]).run P w= .ok v' w'∧w'.ownsRow 0 e sz v' (xs.length+ys.length) (vs++us)∧w.grownBy w' (loc id).ownBlock∧
   (v'.ownBlock=(loc id).ownBlock∨v'.ownBlock=some w.heap.size):=by
  cases A with
  |none=>
   have h0:ys.length=0:=by
    rcases hsrc with h0|⟨ad,h,_⟩
    ·exact h0
    ·cases h
   have tW:us=[]:=List.eq_nil_of_length_eq_zero (by rw [uw,h0];simp);subst tW;rw [h0];exact ⟨loc id,w,tV t o.type e inf hu iN (loc id) _ vs sz hown c,by simpa using hown,⟨rfl,rfl,rfl,Nat.le_refl _,fun _ _ _=>rfl⟩, .inl rfl⟩
  |some ad=>
   have hcells:∀j u,us[j]? =some u→w.cell? (ad.add j)=some u:=by
    rcases hsrc with h0|⟨ad',h,hc⟩
    ·have tW:us=[]:=List.eq_nil_of_length_eq_zero (by rw [uw,h0];simp)
     subst tW;intro j u hu;simp at hu
    ·injection h with h;subst h;exact hc
   obtain ⟨v',w',h1,h2,h3,_,h5⟩:=run_append_own_at (P:=P) w 0 t o.type e inf z sz inf.bytes hu iN PL hsz rfl hzs hpos (loc id) xs.length vs hown ad ys.length c us uw hcells (gO lI) (by simp only [maxLen];omega) hby (Nat.zero_le _);exact ⟨v',w',h1,h2,h3,h5⟩
 have Wz:∀v:Value,(∃A n c,v= .slice A n c)→v.ownBlock=aU v:=by
  rintro v ⟨A,n,c,rfl⟩;cases A<;>rfl
 have iB:∃A n c,loc id= .slice A n c:=by
  rcases hown.2 with ⟨e1,_⟩|⟨g,cap,cur,e1,_⟩
  ·exact ⟨_,_,_,e1⟩
  ·exact ⟨_,_,_,e1⟩
 have CK:∃A n c,v'= .slice A n c:=by
  rcases uu.2 with ⟨e1,_⟩|⟨g,cap,cur,e1,_⟩
  ·exact ⟨_,_,_,e1⟩
  ·exact ⟨_,_,_,e1⟩
 rw [Wz _ iB] at hgrow hblk;rw [Wz _ CK] at hblk;have hok:=hR.obs id _ cu;refine dY (v:=v') (w':=w') (by unfold execOp;rw [ho];simp [resolve,invoke,builtin,pH,Et,hrun]) ?_;rw [cv]
 have h1:=(hR.drop id).world (w':=w') (Mu.le.refl _) (fun _ _ _ h=> .inl h) (fun b j v h=>by
   have hc:=hR.oZ b j v h;have hlt:=gW hc;have hne:some b≠aU (loc id):=fun e=>by have:=(hok.block b (.inl e.symm)).2.2 j;rw [this] at h;cases h
   rw [dK (hgrow.block b hlt hne)];exact hc) (fun k ok hk b hb=>by
   by_cases e':id=k
   ·subst e';simp [bH] at hk
   ·simp only [aQ _ _ e'] at hk
    obtain ⟨_,hlt,oc⟩:=(hR.obs k ok hk).block b hb;have hne:some b≠aU (loc id):=fun e=>hR.apart id k _ ok cu hk e' b (.inl e.symm) hb
    exact ⟨hgrow.block b hlt hne,oc⟩) (fun b hb hl=>by
   refine hgrow.block b (Nat.lt_of_lt_of_le hb hR.grown) (fun e=> ?_);rcases (hok.block b (.inl e.symm)).1 with h|⟨v,hv,h⟩
   ·omega
   ·exact hl ⟨id,v,hv,h⟩) hgrow.os hgrow.tape hgrow.output hgrow.size (fun _=>zW hrun)
 have h2:=h1.new (id:=id) (val:=v') (o:= .row e sz (xs++ys)) hid (by
   refine ⟨vs++us,?_,jd hrc lI,fun g hg=> ?_⟩
   ·rw [bN,List.length_append];exact uu
   ·rw [bN] at hg
    replace hg:aU v'=some g:=by obtain ⟨A',n',c',rfl⟩:=CK;exact eG.1 hg
    rcases hblk with hb|hb
    ·rw [hg] at hb
     have:=hok.block g (.inl hb.symm);exact ⟨this.1,this.2.2⟩
    ·rw [hg] at hb
     injection hb with hb
     subst hb
     exact ⟨.inl hR.grown,qp hR _ (Nat.le_refl _)⟩) (fun j oj hj hne g hg=>by
   have hj':st.ob j=some oj:=by
    by_cases e':id=j
    ·exact absurd e'.symm hne
    ·simpa only [aQ _ _ e'] using hj
   replace hg:aU v'=some g:=by obtain ⟨A',n',c',rfl⟩:=CK;exact eG.1 hg
   rcases hblk with hb|hb
   ·rw [hg] at hb
    exact hR.apart id j _ oj cu hj' (fun e=>hne e.symm) g (.inl hb.symm)
   ·rw [hg] at hb
    injection hb with hb
    subst hb;intro hbj;have:=((hR.obs j oj hj').block _ hbj).2.1
    omega)
 have heq:St.new { st with ob:=put st.ob id none } id (.row e sz (xs++ys))=St.new st id (.row e sz (xs++ys)):=by
  simp only [St.new,St.cn]
  congr 1
  funext k
  by_cases e':id=k
  ·subst e';simp [bH]
  ·simp only [aQ _ _ e']
 rw [heq] at h2;exact hK _ _ _ _ (h2.set (fun i hi=>by injection hi with hi;omega) (Dy (by obtain ⟨A',n',c',rfl⟩:=CK;rfl)))
theorem Bl (w:World) (t ty e:TypeId) (i:TypeInfo) (z:Value) (size bytes:Nat) (ht:P.underlying t=some (.slice e)) (hi:P.info? e=some i) (hz:i.zero=some z)
  (hsize:i.size=size) (hby:i.bytes=bytes) (hzs:z.cells.size=size) (A:Option Addr) (n c0:Nat) (xs:List Value) (hown:w.ownsRow 0 e size (.slice A n c0) n xs)
  (a:Addr) (m c:Nat) (news:List Value) (hl:news.length=m *size) (hnews:∀j u,news[j]? =some u→w.cell? (a.add j)=some u) (h63:n+m≤maxLen) (hbytes:(n+m) *bytes≤140737488355328) (hm:0<m):
  ∃v' w',(Builtin.append_ #[t,t] ty #[.slice A n n, .slice (some a) m c]).run P w= .ok v' w'∧w'.ownsRow 0 e size v' (n+m) (xs++news)∧w.grownBy w' (Value.ownBlock (.slice A n c0))∧
   (v'.ownBlock=Value.ownBlock (.slice A n c0)∨v'.ownBlock=some w.heap.size):=by
 subst hsize hby;have hlen:(xs++news).length=(n+m) *i.size:=by rw [List.length_append,hown.1,hl,Nat.add_mul]
 have hge:=grownCap_ge w (n+m) n e;have hcm:grownCap w (n+m) n e≤maxLen:=grownCap_le_maxLen w (n+m) n e h63;have hsmall:n+m≤9223372036854775807:=by simp only [maxLen] at h63;omega
 have key:∀row,(w.drew.alloc (.cells (xs.toArray++news.toArray++Builtin.zeroCells z.cells (grownCap w (n+m) n e-(n+m))) e)).ownsRow 0 e i.size (.slice (some ⟨w.heap.size,0,none⟩) (n+m) (grownCap w (n+m) n e)) (n+m) (xs++news)∧
   w.grownBy (w.drew.alloc (.cells (xs.toArray++news.toArray++Builtin.zeroCells z.cells (grownCap w (n+m) n e-(n+m))) e)) row:=fun row=>by
  refine ⟨⟨hlen, .inr ⟨w.heap.size,_,_,rfl,Nat.zero_le _,heap_alloc_new w.drew _,hge,hcm,?_,?_⟩⟩,⟨rfl,rfl,rfl,by simp,fun k hk _=>heap_alloc_old w.drew _ k hk⟩⟩
  ·simp only [Array.size_append,List.size_toArray,size_zeroCells,hzs,hown.1,hl,←Nat.add_mul]
   congr 1
   omega
  ·simp only [Array.toList_append,List.append_assoc]
   rw [←List.append_assoc,←hlen];exact List.take_left
 rcases hown.2 with ⟨e1,e2⟩|⟨g,cap,cur,e1,_⟩
 ·have hx:xs=[]:=List.eq_nil_of_length_eq_zero (by have:=hown.1;rw [e2] at this;simpa using this)
  injection e1 with e1 _ _
  subst hx e2 e1;have hr:=run_append_nil (P:=P) w t ty e i z ht hi hz a m c news hl hnews (by omega) (by omega) (by have hb:=hbytes;simp only [Nat.zero_add] at hb;omega);have WB:=key (Value.ownBlock (.slice none 0 c0));simp only [Nat.zero_add,List.nil_append,Array.empty_append] at WB⊢;exact ⟨_,_,hr,WB.1,WB.2, .inr rfl⟩
 ·injection e1 with e1 _ _
  subst e1;have hr:=run_append_grow (P:=P) w t ty e i z ht hi hz ⟨g,0,none⟩ n n xs hown.1 (hown.cells (g:=g) rfl) a m c news hl hnews (by omega) (by omega) (growslice_fits (by omega) hbytes);exact ⟨_,_,hr,(key none).1,(key _).2, .inr rfl⟩
theorem Jp {o:Oper} {x y:Operand} {t e:TypeId} {d sz id:Nat} {sy:SV} {xs ys:List (List AV)} {i:TypeInfo} (hR:Rel N w0 μ0 L μ loc st a w) (hd:d<N) (cv:o.dst=some d)
  (ho:o.op= .call { callee:= .builtin .append,args:= #[x,y],argTypes:= #[t,t] }) (hs:isSlice P t=some (e,sz)) (hx:aR P t st x=some (.at id .full)) (hy:aR P t st y=some sy)
  (cu:st.ob id=some (.row e sz xs)) (hel:elems st sy=some (sz,ys)) (hi:P.info? e=some i) (hpos:0<sz) (hby:(xs.length+ys.length) *i.bytes≤140737488355328) (hlen:xs.length+ys.length≤4611686018427387904)
  (hz:i.zero.map (fun z=>z.cells.size)=some sz) (hid:id<10000∨20000≤id) (hne:ys.isEmpty=false) (hK:iU N w0 μ0 L ((st.new id (.row e sz (xs++ys))).set (some d) (.row id)) K):o.pE P a w K Q:=by
 obtain ⟨hu,inf,iN,hsz⟩:=dV hs;rw [iN] at hi;injection hi with hi;subst hi
 obtain ⟨z,PL,hzs⟩:∃z,inf.zero=some z∧z.cells.size=sz:=by
  cases Uy:inf.zero with
  |none=>simp [Uy] at hz
  |some z=>simp [Uy] at hz;exact ⟨z,rfl,hz⟩
 have yR:=aI hR hy;obtain ⟨vs,hown,hrc,hm⟩:=hR.obs id _ cu;have hpos2:0<ys.length:=by cases ys with
  |nil=>simp at hne
  |cons y ys=>simp
 obtain ⟨A0,pH⟩:∃A0,a.eval x= .slice A0 xs.length xs.length∧∃c,loc id= .slice A0 xs.length c:=by
  obtain ⟨A0,n,c,e1,e2⟩:=aI hR hx;have hn:n=xs.length:=by
   rcases hown.2 with ⟨e3,e4⟩|⟨g,cap,cur,e3,_⟩
   ·rw [e1] at e3;injection e3 with _ e3 _;omega
   ·rw [e1] at e3;injection e3
  subst hn;exact ⟨A0,e2,c,e1⟩
 obtain ⟨pH,c0,hl0⟩:=pH;obtain ⟨A,c,Et,us,lI,hsrc⟩:=nP hR hel yR;have uw:=cg lI;obtain ⟨v',w',hrun,uu,hgrow,hblk⟩:∃v' w',(Builtin.append_ #[t,t] o.type #[.slice A0 xs.length xs.length, .slice A ys.length c]).run P w= .ok v' w'∧w'.ownsRow 0 e sz v' (xs.length+ys.length) (vs++us)∧w.grownBy w' (loc id).ownBlock∧
   (v'.ownBlock=(loc id).ownBlock∨v'.ownBlock=some w.heap.size):=by
  cases A with
  |none=>
   rcases hsrc with h0|⟨ad,h,_⟩
   ·omega
   ·cases h
  |some ad=>
   have hcells:∀j u,us[j]? =some u→w.cell? (ad.add j)=some u:=by
    rcases hsrc with h0|⟨ad',h,hc⟩
    ·have tW:us=[]:=List.eq_nil_of_length_eq_zero (by rw [uw,h0];simp)
     subst tW;intro j u hu;simp at hu
    ·injection h with h;subst h;exact hc
   rw [hl0] at hown⊢;obtain ⟨v',w',h1,h2,h3,h5⟩:=Bl (P:=P) w t o.type e inf z sz inf.bytes hu iN PL hsz rfl hzs A0 xs.length c0 vs hown ad ys.length c us uw hcells (by simp only [maxLen];omega) hby hpos2;exact ⟨v',w',h1,h2,h3,h5⟩
 have Wz:∀v:Value,(∃A n c,v= .slice A n c)→v.ownBlock=aU v:=by
  rintro v ⟨A,n,c,rfl⟩;cases A<;>rfl
 have iB:∃A n c,loc id= .slice A n c:=by
  rcases hown.2 with ⟨e1,_⟩|⟨g,cap,cur,e1,_⟩
  ·exact ⟨_,_,_,e1⟩
  ·exact ⟨_,_,_,e1⟩
 have CK:∃A n c,v'= .slice A n c:=by
  rcases uu.2 with ⟨e1,_⟩|⟨g,cap,cur,e1,_⟩
  ·exact ⟨_,_,_,e1⟩
  ·exact ⟨_,_,_,e1⟩
 rw [Wz _ iB] at hgrow hblk;rw [Wz _ CK] at hblk;have hok:=hR.obs id _ cu;refine dY (v:=v') (w':=w') (by unfold execOp;rw [ho];simp [resolve,invoke,builtin,pH,Et,hrun]) ?_;rw [cv]
 have h1:=(hR.drop id).world (w':=w') (Mu.le.refl _) (fun _ _ _ h=> .inl h) (fun b j v h=>by
   have hc:=hR.oZ b j v h;have hlt:=gW hc;have hne:some b≠aU (loc id):=fun e=>by have:=(hok.block b (.inl e.symm)).2.2 j;rw [this] at h;cases h
   rw [dK (hgrow.block b hlt hne)];exact hc) (fun k ok hk b hb=>by
   by_cases e':id=k
   ·subst e';simp [bH] at hk
   ·simp only [aQ _ _ e'] at hk
    obtain ⟨_,hlt,oc⟩:=(hR.obs k ok hk).block b hb;have hne:some b≠aU (loc id):=fun e=>hR.apart id k _ ok cu hk e' b (.inl e.symm) hb
    exact ⟨hgrow.block b hlt hne,oc⟩) (fun b hb hl=>by
   refine hgrow.block b (Nat.lt_of_lt_of_le hb hR.grown) (fun e=> ?_);rcases (hok.block b (.inl e.symm)).1 with h|⟨v,hv,h⟩
   ·omega
   ·exact hl ⟨id,v,hv,h⟩) hgrow.os hgrow.tape hgrow.output hgrow.size (fun _=>zW hrun)
 have h2:=h1.new (id:=id) (val:=v') (o:= .row e sz (xs++ys)) hid (by
   refine ⟨vs++us,?_,jd hrc lI,fun g hg=> ?_⟩
   ·rw [bN,List.length_append];exact uu
   ·rw [bN] at hg
    replace hg:aU v'=some g:=by obtain ⟨A',n',c',rfl⟩:=CK;exact eG.1 hg
    rcases hblk with hb|hb
    ·rw [hg] at hb
     have:=hok.block g (.inl hb.symm);exact ⟨this.1,this.2.2⟩
    ·rw [hg] at hb
     injection hb with hb
     subst hb
     exact ⟨.inl hR.grown,qp hR _ (Nat.le_refl _)⟩) (fun j oj hj hne g hg=>by
   have hj':st.ob j=some oj:=by
    by_cases e':id=j
    ·exact absurd e'.symm hne
    ·simpa only [aQ _ _ e'] using hj
   replace hg:aU v'=some g:=by obtain ⟨A',n',c',rfl⟩:=CK;exact eG.1 hg
   rcases hblk with hb|hb
   ·rw [hg] at hb
    exact hR.apart id j _ oj cu hj' (fun e=>hne e.symm) g (.inl hb.symm)
   ·rw [hg] at hb
    injection hb with hb
    subst hb;intro hbj;have:=((hR.obs j oj hj').block _ hbj).2.1
    omega)
 have heq:St.new { st with ob:=put st.ob id none } id (.row e sz (xs++ys))=St.new st id (.row e sz (xs++ys)):=by
  simp only [St.new,St.cn]
  congr 1
  funext k
  by_cases e':id=k
  ·subst e';simp [bH]
  ·simp only [aQ _ _ e']
 rw [heq] at h2;exact hK _ _ _ _ (h2.set (fun i hi=>by injection hi with hi;omega) (Dy (by obtain ⟨A',n',c',rfl⟩:=CK;rfl)))
theorem Jq {o:Oper} {x y:Operand} {t e e2:TypeId} {d sz id k s2:Nat} {sy:SV} {xs ys:List (List AV)} {zs:List (Option (List (List AV)))} {i:TypeInfo} (hR:Rel N w0 μ0 L μ loc st a w) (hd:d<N) (cv:o.dst=some d)
  (ho:o.op= .call { callee:= .builtin .append,args:= #[x,y],argTypes:= #[t,t] }) (hs:isSlice P t=some (e,sz)) (hx:aR P t st x=some (.row id)) (hy:aR P t st y=some sy)
  (cu:st.ob id=some (.rn e sz k e2 s2 xs zs)) (hel:elems st sy=some (sz,ys)) (hi:P.info? e=some i) (hpos:0<sz) (hby:(xs.length+ys.length) *i.bytes≤140737488355328) (hlen:xs.length+ys.length≤4611686018427387904)
  (hz:i.zero.map (fun z=>z.cells.size)=some sz) (hid:id<10000∨20000≤id) (hall:ys.all (kQ k)=true) (hK:iU N w0 μ0 L ((st.new id (.rn e sz k e2 s2 (xs++ys.map fun c=>c.set k .hole) (zs++ys.map fun _=>some []))).set (some d) (.row id)) K):o.pE P a w K Q:=by
 obtain ⟨hu,inf,iN,hsz⟩:=dV hs;rw [iN] at hi;injection hi with hi;subst hi
 obtain ⟨z,PL,hzs⟩:∃z,inf.zero=some z∧z.cells.size=sz:=by
  cases Uy:inf.zero with
  |none=>simp [Uy] at hz
  |some z=>simp [Uy] at hz;exact ⟨z,rfl,hz⟩
 obtain ⟨m,vu,vs,hl,hm,hown,hrc,hk,h2,h3,h4,h5,h6,h7⟩:=hR.obs id _ cu;have pH:a.eval x=m:=(aI hR hx:a.eval x=cV (loc id)).trans (by rw [hl];rfl);have yR:=aI hR hy;obtain ⟨A,c,Et,us,lI,hsrc⟩:=nP hR hel yR;have uw:=cg lI;obtain ⟨hus',CG⟩:=qy lI hall hk.1;obtain ⟨v',w',hrun,uu,hgrow,hblk⟩:∃v' w',(Builtin.append_ #[t,t] o.type #[m, .slice A ys.length c]).run P w= .ok v' w'∧w'.ownsRow 0 e sz v' (xs.length+ys.length) (vs++us)∧w.grownBy w' m.ownBlock∧
   (v'.ownBlock=m.ownBlock∨v'.ownBlock=some w.heap.size):=by
  cases A with
  |none=>
   have h0:ys.length=0:=by
    rcases hsrc with h0|⟨ad,h,_⟩
    ·exact h0
    ·cases h
   have tW:us=[]:=List.eq_nil_of_length_eq_zero (by rw [uw,h0];simp);subst tW;rw [h0];exact ⟨m,w,tV t o.type e inf hu iN m _ vs sz hown c,by simpa using hown,⟨rfl,rfl,rfl,Nat.le_refl _,fun _ _ _=>rfl⟩, .inl rfl⟩
  |some ad=>
   have hcells:∀j u,us[j]? =some u→w.cell? (ad.add j)=some u:=by
    rcases hsrc with h0|⟨ad',h,hc⟩
    ·have tW:us=[]:=List.eq_nil_of_length_eq_zero (by rw [uw,h0];simp)
     subst tW;intro j u hu;simp at hu
    ·injection h with h;subst h;exact hc
   obtain ⟨v',w',h1,h2,h3,_,h5⟩:=run_append_own_at (P:=P) w 0 t o.type e inf z sz inf.bytes hu iN PL hsz rfl hzs hpos m xs.length vs hown ad ys.length c us uw hcells (gO lI) (by simp only [maxLen];omega) hby (Nat.zero_le _);exact ⟨v',w',h1,h2,h3,h5⟩
 have Wz:∀v:Value,(∃A n c,v= .slice A n c)→v.ownBlock=aU v:=by
  rintro v ⟨A,n,c,rfl⟩;cases A<;>rfl
 have xx:∀{w:World} {v:Value} {n:Nat} {cs:List Value} {e s:Nat},w.ownsRow 0 e s v n cs→∃A n c,v= .slice A n c:=fun ho=>by
  rcases ho.2 with ⟨e1,_⟩|⟨g,cap,cur,e1,_⟩<;>exact ⟨_,_,_,e1⟩
 have qD:=xx hown;have CK:=xx uu;rw [Wz _ qD] at hgrow hblk;rw [Wz _ CK] at hblk;have hok:=hR.obs id _ cu;have hinm:∀g,aU m=some g→fE (loc id) g:=fun g hg=>by rw [hl];exact fP.2 (.inl hg)
 have hinu:∀u∈vu,∀g,aU u=some g→fE (loc id) g:=fun u hu g hg=>by rw [hl];exact fP.2 (.inr ⟨u,hu,hg⟩)
 refine dY (v:=v') (w':=w') (by unfold execOp;rw [ho];simp [resolve,invoke,builtin,pH,Et,hrun]) ?_;rw [cv]
 have h1:=(hR.drop id).world (w':=w') (Mu.le.refl _) (fun _ _ _ h=> .inl h) (fun b j v h=>by
   have hc:=hR.oZ b j v h;have hlt:=gW hc;have hne:some b≠aU m:=fun e=>by have:=(hm b e.symm).2 j;rw [this] at h;cases h
   rw [dK (hgrow.block b hlt hne)];exact hc) (fun k ok hk b hb=>by
   by_cases e':id=k
   ·subst e';simp [bH] at hk
   ·simp only [aQ _ _ e'] at hk
    obtain ⟨_,hlt,oc⟩:=(hR.obs k ok hk).block b hb;have hne:some b≠aU m:=fun e=>hR.apart id k _ ok cu hk e' b (hinm b e.symm) hb
    exact ⟨hgrow.block b hlt hne,oc⟩) (fun b hb hl'=>by
   refine hgrow.block b (Nat.lt_of_lt_of_le hb hR.grown) (fun e=> ?_);rcases (hm b e.symm).1 with h|⟨v,hv,h⟩
   ·omega
   ·exact hl' ⟨id,v,hv,h⟩) hgrow.os hgrow.tape hgrow.output hgrow.size (fun _=>zW hrun)
 have hvl:=cg hrc;have mem:∀u∈vu++ys.map (fun _=>(.slice none 0 0:Value)),u∈vu∨u= .slice none 0 0:=fun u hu=>by
  rcases List.mem_append.1 hu with hu|hu
  ·exact .inl hu
  ·obtain ⟨c,_,rfl⟩:=List.mem_map.1 hu;exact .inr rfl
 have hvg:∀g,aU v'=some g→(aU m=some g)∨g=w.heap.size:=fun g hg=>by
  rcases hblk with hb|hb
  ·exact .inl (by rw [←hb];exact hg)
  ·rw [hg] at hb;injection hb with hb;exact .inr hb
 have QT:=h1.new (id:=id) (val:= .tuple (v'::(vu++ys.map fun _=>(.slice none 0 0:Value))).toArray) (o:= .rn e sz k e2 s2 (xs++ys.map fun c=>c.set k .hole) (zs++ys.map fun _=>some [])) hid (by
   refine ⟨v',_,vs++us,bN _ _ _,fun g hg=> ?_,by rw [List.length_append,List.length_map];exact uu,jd hrc hus',⟨hk.1,fun c hc=> ?_⟩,by simp [h2],by simp [h3],fun i zs' hi=> ?_,fun i hi=> ?_,fun u hu g hg Sf=> ?_,fun i j u v hu hv hij g hg hg'=> ?_⟩
   ·rcases hvg g hg with hb|rfl
    ·exact ⟨(hm g hb).1,(hm g hb).2⟩
    ·exact ⟨.inl hR.grown,qp hR _ (Nat.le_refl _)⟩
   ·rcases List.mem_append.1 hc with hc|hc
    ·exact hk.2 c hc
    ·obtain ⟨c',Bq,rfl⟩:=List.mem_map.1 hc
     have:=s7 (List.all_eq_true.1 hall c' Bq);rw [List.getElem?_set_self (List.getElem?_eq_some_iff.1 this).1]
   ·by_cases hil:i<zs.length
    ·rw [List.getElem?_append_left hil] at hi
     obtain ⟨u,cells,k1,k2,k3,k4,k5⟩:=h4 i zs' hi;refine ⟨u,cells,by rw [List.getElem?_append_left (by omega)];exact k1,by rw [List.getElem?_append_left (List.getElem?_eq_some_iff.1 k2).1];exact k2,gL k3 (fun g hg=> ?_),k4,k5⟩;exact hgrow.block g (nC k3 hg) (fun e=>h6 u (List.mem_of_getElem? k1) g hg e.symm)
    ·rw [List.getElem?_append_right (by omega)] at hi
     simp only [List.getElem?_map,Option.map_eq_some_iff] at hi;obtain ⟨c,hc,e1⟩:=hi;simp only [Option.some.injEq] at e1;subst e1;have Bg:=(List.getElem?_eq_some_iff.1 hc).1;refine ⟨.slice none 0 0,[],by rw [List.getElem?_append_right (by omega)];simp [h2,hc],?_,⟨by simp, .inl ⟨rfl,rfl⟩⟩,rfl,fun g hg=>by simp [aU] at hg⟩;have e3:i *sz+k-vs.length=(i-zs.length) *sz+k:=by
      rw [hvl,h3,Nat.sub_mul];have:zs.length *sz≤i *sz:=Nat.mul_le_mul_right _ (by omega);omega
     rw [List.getElem?_append_right (by rw [hvl,h3];have:zs.length *sz≤i *sz:=Nat.mul_le_mul_right _ (by omega);omega),e3];exact CG _ Bg
   ·by_cases hil:i<zs.length
    ·rw [List.getElem?_append_left hil] at hi
     rw [List.getElem?_append_left (by omega)];exact h5 i hi
    ·rw [List.getElem?_append_right (by omega)] at hi
     simp only [List.getElem?_map,Option.map_eq_some_iff] at hi;obtain ⟨c,_,e1⟩:=hi;cases e1
   ·rcases mem u hu with hu|rfl
    ·rcases hvg g Sf with hb|rfl
     ·exact h6 u hu g hg hb
     ·have:=(hok.block _ (hinu u hu _ hg)).2.1;omega
    ·simp [aU] at hg
   ·have split:∀q z,(vu++ys.map fun _=>(.slice none 0 0:Value))[q]? =some z→∀g,aU z=some g→vu[q]? =some z:=fun q z hz g hg=>by
     by_cases hq:q<vu.length
     ·rwa [List.getElem?_append_left hq] at hz
     ·rw [List.getElem?_append_right (by omega)] at hz
      simp only [List.getElem?_map,Option.map_eq_some_iff] at hz;obtain ⟨c,_,e1⟩:=hz;subst e1;simp [aU] at hg
    exact h7 i j u v (split i u hu g hg) (split j v hv g hg') hij g hg hg') (fun j oj hj hne g hg=>by
   have hj':st.ob j=some oj:=by
    by_cases e':id=j
    ·exact absurd e'.symm hne
    ·simpa only [aQ _ _ e'] using hj
   rcases fP.1 hg with hg|⟨u,hu,hg⟩
   ·rcases hvg g hg with hb|rfl
    ·exact hR.apart id j _ oj cu hj' (fun e=>hne e.symm) g (hinm g hb)
    ·intro hbj
     have:=((hR.obs j oj hj').block _ hbj).2.1;omega
   ·rcases mem u hu with hu|rfl
    ·exact hR.apart id j _ oj cu hj' (fun e=>hne e.symm) g (hinu u hu g hg)
    ·simp [aU] at hg)
 have heq:∀o',St.new { st with ob:=put st.ob id none } id o'=St.new st id o':=fun o'=>by
  simp only [St.new,St.cn]
  congr 1
  funext k
  by_cases e':id=k
  ·subst e';simp [bH]
  ·simp only [aQ _ _ e']
 rw [heq] at QT;exact hK _ _ _ _ (QT.set (fun i hi=>by injection hi with hi;omega) (W5 (by obtain ⟨A',n',c',rfl⟩:=CK;rfl)))
theorem AI {t k e:TypeId} {r:Option Operand} (hR:Rel N w0 μ0 L μ loc st a w) (ht:P.underlying t=some (.map k e)) (hr:pK P st r=true):(Instr.makeMap t (r.map a.eval)).run P w= .ok (.map (some w.heap.size)) (w.alloc (.map #[] 0)):=by
 have hrun:(Instr.makeMap t (r.map a.eval)).run P w= .ok (.map (some w.heap.size)) (w.alloc (.map #[] 0)):=by
  cases r with
  |none=>rfl
  |some x=>
   simp only [pK] at hr;cases hx:(aR P 0 st x).bind eR with
   |none=>simp [hx] at hr
   |some y=>
    cases y with
    |int q n=>
     have:=dr hR hx;rw [rep] at this;have e:(Instr.makeMap t (some (.int q n))).run P w=(Instr.makeMap t none).run P w:=by simp [Instr.makeMap,run_underlying ht,asInt,asIntOf]
     simp only [Option.map_some,this];rw [e];rfl
    |_=>simp [hx] at hr
 exact hrun
theorem Jr {o:Oper} {t k e:TypeId} {r:Option Operand} {d:Nat} (hR:Rel N w0 μ0 L μ loc st a w) (hd:d<N) (cv:o.dst=some d) (ho:o.op= .makeMap t r) (ht:P.underlying t=some (.map k e))
  (hr:pK P st r=true) (hK:iU N w0 μ0 L ((st.new d (.mp k e [] [])).set (some d) (.row d)) K):o.pE P a w K Q:=by
 have hrun:=AI (P:=P) hR ht hr;refine dY (v:= .map (some w.heap.size)) (w':=w.alloc (.map #[] 0)) (by unfold execOp;rw [ho];simp [hrun]) ?_;rw [cv];refine hK _ _ _ _ (hR.made hd (val:= .map (some w.heap.size)) (fun g hg=>oF.1 hg) ?_ ?_)
 ·refine ⟨w.heap.size, #[],0,bN _ _ _, .inl hR.grown,(by show (w.heap.push _)[w.heap.size]? =_;simp),qp hR _ (Nat.le_refl _),by simp [br],by simp [br],⟨by simp,by simp⟩⟩
 ·exact Dy rfl
theorem Ml {key x:AV} {kv xv:Value} (h:p9 key x=some true) (hk:rep μ key kv) (hx:rep μ x xv):kv=xv∧key=x:=by
 unfold p9 at h;split at h
 ·rename_i s t
  simp only [Option.some.injEq,beq_iff_eq] at h;subst h;rw [rep] at hk hx;exact ⟨hk.trans hx.symm,rfl⟩
 ·rename_i q s q' t
  split at h
  ·rename_i e;subst e
   simp only [Option.some.injEq,beq_iff_eq] at h;subst h;rw [rep] at hk hx;exact ⟨hk.trans hx.symm,rfl⟩
  ·cases h
 ·rename_i s t
  simp only [Option.some.injEq,beq_iff_eq] at h;subst h;rw [rep] at hk hx;exact ⟨hk.trans hx.symm,rfl⟩
 ·cases h
theorem x7 {kv:Value} {key:AV} (hk:rep μ key kv) {kt:TypeId} (hok:fI P kt key=true) (w:World):(Instr.keyThatStays kv kv).run P w= .ok kv w:=by
 have hs:∀n,Instr.sameBits n kv kv=true:=by
  intro n;unfold fI at hok;split at hok
  ·rw [rep] at hk;subst hk;cases n<;>simp [Instr.sameBits,Nl]
  ·rw [rep] at hk;subst hk;cases n<;>simp [Instr.sameBits]
  ·rw [rep] at hk;subst hk;cases n<;>simp [Instr.sameBits]
  ·cases hok
 simp only [Instr.keyThatStays,hs 10000];simp
theorem wU {xs:List AV} {vs:List Value} (h:br μ xs vs) {i:Nat} {x:AV} {v:Value} (hx:rep μ x v):br μ (xs.set i x) (vs.set i v):=by
 induction xs generalizing vs i with
 |nil=>rw [br] at h;subst h;simp [br]
 |cons y xs ih=>
  rw [br] at h;obtain ⟨u,us,rfl,h1,h2⟩:=h;cases i with
  |zero=>simpa using bI hx h2
  |succ i=>simpa using bI h1 (ih h2)
theorem vP {t kt et:TypeId} {b:Nat} {cN:Array MapEntry} {clock:Nat} {key:AV} {kv x:Value} {ks:List AV} {r:Option Nat} (hu:P.underlying t=some (.map kt et)) (hh:w.heap[b]? =some (.map cN clock)) (hkr:rep μ key kv) (hok:fI P kt key=true)
  (h1:br μ ks (cN.toList.map (·.key))) (hf:j8 key ks=some r):
  ∃fH clock',(Instr.mapUpdate t (.map (some b)) kv x).run P w= .ok () { w with heap:=w.heap.setIfInBounds b (.map fH clock') }∧
   (r=none→br μ (ks++[key]) (fH.toList.map (·.key))∧fH.toList.map (·.val)=cN.toList.map (·.val)++[x])∧
   (∀j,r=some j→br μ ks (fH.toList.map (·.key))∧fH.toList.map (·.val)=(cN.toList.map (·.val)).set j x∧j<cN.size)∧(O1 cN clock→O1 fH clock'):=by
 have D9:=jA hkr hok h1 hf w;cases r with
 |none=>
  refine ⟨cN.push { key:=kv,val:=x,born:=clock },clock+1,?_,fun _=>⟨?_,by simp⟩,(fun j e=>by cases e),fun hB=>⟨fun y hy=> ?_,?_⟩⟩
  ·simp only [] at D9
   simp [Instr.mapUpdate,run_underlying hu,eL hh,eV hkr hok,D9,setObj,Sem.run,hh]
  ·simpa using jg h1 (bI hkr cK)
  ·rw [Array.toList_push,List.mem_append] at hy
   rcases hy with hy|hy
   ·have:=hB.1 y hy;omega
   ·rw [List.mem_singleton] at hy;subst hy;exact Nat.lt_succ_self _
  ·rw [Array.toList_push,List.map_append,List.nodup_append]
   refine ⟨hB.2,by simp,fun a ha b hb=> ?_⟩;obtain ⟨y,hy,rfl⟩:=List.mem_map.1 ha;simp only [List.map_cons,List.map_nil,List.mem_singleton] at hb;subst hb;have:=hB.1 y hy;omega
 |some j=>
  obtain ⟨e,he,hrun,y,hy,hyk⟩:=D9;obtain ⟨yv,yR,hyr⟩:=nk h1 hy;have he':cN[j]? =some e:=by simpa using he
  have Et:yv=e.key:=by
   simp [he'] at yR;exact yR.symm
  subst Et;obtain ⟨hsame,_⟩:=Ml hyk hkr hyr;have xY:(cN.modify j fun e=>{ e with key:=kv,val:=x }).toList.map (·.born)=cN.toList.map (·.born):=by
   apply List.ext_getElem?;intro i;simp only [List.getElem?_map,Array.getElem?_toList,Array.getElem?_modify];by_cases e1:j=i
   ·subst e1;simp [he']
   ·simp [e1]
  refine ⟨cN.modify j fun e=>{ e with key:=kv,val:=x },clock,?_,(fun e=>by cases e),(fun j' ej=> ?_),fun hB=>⟨fun y hy=> ?_,by rw [xY];exact hB.2⟩⟩
  rotate_right
  ·have hm:y.born∈cN.toList.map (·.born):=by rw [←xY];exact List.mem_map.2 ⟨y,hy,rfl⟩
   obtain ⟨z,hz,e⟩:=List.mem_map.1 hm;rw [←e];exact hB.1 z hz
  ·simp [Instr.mapUpdate,run_underlying hu,eL hh,eV hkr hok,hrun,he',←hsame,x7 hkr hok,setObj,Sem.run,hh]
  ·injection ej with ej;subst ej
   refine ⟨?_,?_,(Array.getElem?_eq_some_iff.1 he').1⟩
   ·have:(cN.modify j fun e=>{ e with key:=kv,val:=x }).toList.map (·.key)=cN.toList.map (·.key):=by
     apply List.ext_getElem?;intro i;simp only [List.getElem?_map,Array.getElem?_toList,Array.getElem?_modify];by_cases e1:j=i
     ·subst e1;simp [he',hsame]
     ·simp [e1]
    rw [this];exact h1
   ·apply List.ext_getElem?
    intro i;simp only [List.getElem?_map,Array.getElem?_toList,Array.getElem?_modify,List.getElem?_set];by_cases e1:j=i
    ·subst e1;simp [he']
     exact (Array.getElem?_eq_some_iff.1 he').1
    ·simp [e1]
theorem xO {o:Oper} {t:TypeId} {m k x:Operand} (hR:Rel N w0 μ0 L μ loc st a w) (cv:o.dst=none) (ho:o.op= .mapUpdate t m k x∨o.op= .insert t m k x) (h:rU P st t m k x=some st')
  (hK:iU N w0 μ0 L st' K):o.pE P a w K Q:=by
 unfold rU at h;split at h
 ·rename_i kt et hu
  split at h
  ·rename_i st1 Ss
   obtain ⟨μ1,CB⟩:∃μ1,Rel N w0 μ0 L μ1 loc st1 a w:=by
    unfold ML at Ss;split at Ss
    ·injection Ss with e;subst e;exact ⟨μ,hR⟩
    ·obtain ⟨μ',_,h'⟩:=hR.cw Ss;exact ⟨μ',h'⟩
    ·cases Ss
   split at h
   ·rename_i id key v hm hk hx
    split at h
    ·rename_i k' e' ks vs cu
     cases hc:(fI P kt key&&v.AL) with
     |false=>simp [hc] at h
     |true=>
      simp only [hc,cond_true] at h;simp only [Bool.and_eq_true] at hc;split at h
      ·rename_i ks' vs' hput
       injection h with h
       subst h;obtain ⟨b,cN,clock,hl,hown,hh,oc,h1,h2,hB⟩:=CB.obs id _ cu;have qD:a.eval m= .map (some b):=by
        have:=aI CB hm;simp only [c8] at this;rw [this,hl];rfl
       have hkr:=dr CB hk;have Yw:=dr CB hx;have YD:∃fH clock',(Instr.mapUpdate t (a.eval m) (a.eval k) (a.eval x)).run P w= .ok () { w with heap:=w.heap.setIfInBounds b (.map fH clock') }∧br μ1 ks' (fH.toList.map (·.key))∧br μ1 vs' (fH.toList.map (·.val))∧O1 fH clock':=by
        unfold vr at hput;cases hf:j8 key ks with
        |none=>simp [hf] at hput
        |some r=>
         obtain ⟨fH,clock',hrun,q1,q2,q3⟩:=vP (x:=a.eval x) hu hh hkr hc.1 h1 hf;refine ⟨fH,clock',by rw [qD];exact hrun,?_⟩;cases r with
         |none=>
          simp only [hf,Option.some.injEq,Prod.mk.injEq] at hput;obtain ⟨rfl,rfl⟩:=hput;obtain ⟨k1,k2⟩:=q1 rfl;exact ⟨k1,by rw [k2];exact jg h2 (bI Yw cK),q3 hB⟩
         |some j=>
          simp only [hf,Option.some.injEq,Prod.mk.injEq] at hput;obtain ⟨rfl,rfl⟩:=hput;obtain ⟨k1,k2,_⟩:=q2 j rfl;exact ⟨k1,by rw [k2];exact wU h2 Yw,q3 hB⟩
       obtain ⟨fH,clock',hrun,r1,r2,r3⟩:=YD;have hlt:=(Array.getElem?_eq_some_iff.1 hh).1
       have L6:=CB.write cu (g:=b) (by rw [hl];exact oF.2 rfl) (w':={ w with heap:=w.heap.setIfInBounds b (.map fH clock') }) (o':= .mp k' e' ks' vs') (fun b' hb'=>by
         simp only [];rw [Array.getElem?_setIfInBounds_ne (fun e=>hb' e.symm)]) rfl rfl rfl (by simp) ⟨b,fH,clock',hl,hown,by simp [hlt],oc,r1,r2,r3⟩
       have:((execOp a.eval o).run P w)= .ok .skip { w with heap:=w.heap.setIfInBounds b (.map fH clock') }:=by
        unfold execOp;rcases ho with ho|ho<;>rw [ho]<;>simp [hrun]
       exact yP this (by rw [cv];exact hK _ _ _ _ L6)
      ·cases h
    ·cases h
   ·cases h
  ·cases h
 ·cases h
theorem yB {xs:List AV} {vs:List Value} (h:br μ xs vs) (i:Nat):br μ (xs.eraseIdx i) (vs.eraseIdx i):=by
 induction xs generalizing vs i with
 |nil=>rw [br] at h;subst h;simp [br]
 |cons x xs ih=>
  rw [br] at h;obtain ⟨u,us,rfl,h1,h2⟩:=h;cases i with
  |zero=>simpa using h2
  |succ i=>simpa using bI h1 (ih h2 i)
theorem E7 {α β:Type} (f:α→β) (l:List α) (j:Nat):(l.eraseIdx j).map f=(l.map f).eraseIdx j:=by
 induction l generalizing j with
 |nil=>rfl
 |cons x l ih=>
  cases j with
  |zero=>rfl
  |succ j=>simp [ih]
theorem LI {o:Oper} {c:Call} {t:TypeId} {ts:List TypeId} {m k:Operand} (hR:Rel N w0 μ0 L μ loc st a w) (cv:o.dst=none) (ho:o.op= .call c) (hc:c.callee= .builtin .delete) (ha:c.args.toList=[m,k]) (ht:c.argTypes.toList=t::ts) (h:rT P st t m k=some st')
  (hK:iU N w0 μ0 L st' K):o.pE P a w K Q:=by
 obtain ⟨callee,⟨args⟩,⟨argTypes⟩⟩:=c;simp only at hc ha ht;subst hc;subst ha;subst ht;unfold rT at h;split at h
 ·rename_i kt et hu
  split at h
  ·rename_i id key hm hk
   split at h
   ·rename_i k' e' ks vs cu
    cases hok:fI P kt key with
    |false=>simp [hok] at h
    |true=>
     simp only [hok,cond_true] at h;split at h
     ·rename_i ks' vs' PB
      injection h with h
      subst h;obtain ⟨b,cN,clock,hl,hown,hh,oc,h1,h2,hB⟩:=hR.obs id _ cu;have qD:a.eval m= .map (some b):=by
       have:=aI hR hm;simp only [c8] at this;rw [this,hl];rfl
      have hkr:=dr hR hk;have YD:∃fH,(Builtin.delete_ (t::ts).toArray o.type #[a.eval m,a.eval k]).run P w= .ok (.tuple #[]) { w with heap:=w.heap.setIfInBounds b (.map fH clock) }∧br μ ks' (fH.toList.map (·.key))∧br μ vs' (fH.toList.map (·.val))∧O1 fH clock:=by
       unfold YP at PB;cases hf:j8 key ks with
       |none=>simp [hf] at PB
       |some r=>
        have D9:=jA hkr hok h1 hf w;cases r with
        |none=>
         simp only [hf,Option.some.injEq,Prod.mk.injEq] at PB;obtain ⟨rfl,rfl⟩:=PB;simp only [] at D9;exact ⟨cN,by simp [Builtin.delete_,qD,run_underlying hu,eL hh,eV hkr hok,D9,setObj,Sem.run,hh],h1,h2,hB⟩
        |some j=>
         simp only [hf,Option.some.injEq,Prod.mk.injEq] at PB;obtain ⟨rfl,rfl⟩:=PB;obtain ⟨e,he,hrun,_⟩:=D9;refine ⟨cN.eraseIdxIfInBounds j,by simp [Builtin.delete_,qD,run_underlying hu,eL hh,eV hkr hok,hrun,setObj,Sem.run,hh],?_,?_,⟨fun y hy=>hB.1 y (by rw [Array.toList_eraseIdxIfInBounds] at hy;exact (List.eraseIdx_sublist _ _).subset hy),by rw [Array.toList_eraseIdxIfInBounds];exact hB.2.sublist ((List.eraseIdx_sublist _ _).map _)⟩⟩
         ·have:=yB h1 j
          rw [←E7] at this;rw [Array.toList_eraseIdxIfInBounds];exact this
         ·have:=yB h2 j
          rw [←E7] at this;rw [Array.toList_eraseIdxIfInBounds];exact this
      obtain ⟨fH,hrun,r1,r2,r3⟩:=YD;have hlt:=(Array.getElem?_eq_some_iff.1 hh).1
      have L6:=hR.write cu (g:=b) (by rw [hl];exact oF.2 rfl) (w':={ w with heap:=w.heap.setIfInBounds b (.map fH clock) }) (o':= .mp k' e' ks' vs') (fun b' hb'=>by
        simp only [];rw [Array.getElem?_setIfInBounds_ne (fun e=>hb' e.symm)]) rfl rfl rfl (by simp) ⟨b,fH,clock,hl,hown,by simp [hlt],oc,r1,r2,r3⟩
      refine dY (v:= .tuple #[]) (w':={ w with heap:=w.heap.setIfInBounds b (.map fH clock) }) (by
       unfold execOp;rw [ho];simp only [List.map_toArray,List.map_cons,List.map_nil,resolve,invoke,builtin];have hrun':(Builtin.delete_ { toList:=t::ts } o.type #[a.eval m,a.eval k]).run P w=_:=hrun
       simp [hrun']) ?_
      rw [cv];exact hK _ _ _ _ L6
     ·cases h
   ·cases h
  ·cases h
 ·cases h
theorem tv {id:Nat} {val:Value} {us:Array Value} (wB:loc id= .tuple us) (hbase:cV val=cV (loc id)):∀{cs:List jJ} {vs:List Value},fU μ loc cs vs→fU μ (kT loc id val) cs vs
 |[],vs,h=>h
 |c::cs,vs,⟨u,us',e,h1,h2⟩=>by
  refine ⟨u,us',e,?_,tv wB hbase h2⟩;cases c with
  |v a=>exact h1
  |p j=>
   obtain ⟨b,k1,k2⟩:=h1;have hne:j≠id:=fun e=>by subst e;rw [wB] at k1;cases k1
   exact ⟨b,by rw [bQ _ _ hne];exact k1,k2⟩
  |r j=>
   show u=cV (kT loc id val j);by_cases e:j=id
   ·subst e;rw [bN,hbase];exact h1
   ·rw [bQ _ _ e];exact h1
theorem Fj {id:Nat} {val:Value} {us:Array Value} (wB:loc id= .tuple us) (hbase:cV val=cV (loc id)) {s:SV} {v:Value} (CC:(∀q u,sk q (loc id) u→sk q val u)∨s.mentions (id+40000)=false) (k:c8 μ loc s v):c8 μ (kT loc id val) s v:=by
 induction s generalizing v with
 |undef=>exact k
 |any=>exact k
 |pv y=>exact k
 |cp cs=>exact k
 |ptr j off=>
  obtain ⟨b,h1,h2⟩:=k;have hne:j≠id:=fun e=>by subst e;rw [wB] at h1;cases h1
  exact ⟨b,by rw [bQ _ _ hne];exact h1,h2⟩
 |row j=>
  show v=cV (kT loc id val j);by_cases e:j=id
  ·subst e;rw [bN,hbase];exact k
  ·rw [bQ _ _ e];exact k
 |rp j sz i off=>
  obtain ⟨g,n,c,h1,h2⟩:=k;refine ⟨g,n,c,?_,h2⟩;by_cases e:j=id
  ·subst e;rw [bN,hbase];exact h1
  ·rw [bQ _ _ e];exact h1
 |sub j sz lo hi=>
  obtain ⟨A,n,c,A',c',h1,h2⟩:=k;have hne:j≠id:=fun e=>by subst e;rw [wB] at h1;cases h1
  exact ⟨A,n,c,A',c',by rw [bQ _ _ hne];exact h1,h2⟩
 |cl f caps=>obtain ⟨vs,e,hc⟩:=k;exact ⟨vs,e,tv wB hbase hc⟩
 |ag caps=>obtain ⟨vs,e,hc,h1⟩:=k;exact ⟨vs,e,tv wB hbase hc,h1⟩
 | «at» j q=>
  show sk q (kT loc id val j) v;by_cases e:j=id
  ·subst e
   rw [bN];rcases CC with CC|CC
   ·exact CC q v k
   ·simp [SV.mentions,Nat.beq_refl] at CC
  ·rw [bQ _ _ e];exact k
 |two s b ih=>obtain ⟨y,e,k⟩:=k;exact ⟨y,e,ih CC k⟩
theorem Dv {id:Nat} {val:Value} {us:Array Value} (wB:loc id= .tuple us) (hbase:cV val=cV (loc id)):∀{cs:List SV} {vs:List Value},((∀q u,sk q (loc id) u→sk q val u)∨∀c∈cs,c.mentions (id+40000)=false)→eM μ loc cs vs→eM μ (kT loc id val) cs vs
 |[],vs,_,h=>h
 |c::cs,vs,CC,⟨u,us',e,h1,h2⟩=>⟨u,us',e,Fj wB hbase (CC.imp (fun h=>h) fun h=>h c (by simp)) h1,Dv wB hbase (CC.imp (fun h=>h) fun h c hc=>h c (by simp [hc])) h2⟩
def YT (id:Nat):Ob→Prop
 | .box _ cells=>∀c∈cells,c.mentions (id+40000)=false
 |_=>True
theorem P3 {n0:Nat} {i id:Nat} {val:Value} {us:Array Value} (wB:loc id= .tuple us) (hbase:cV val=cV (loc id)) {o:Ob} (CC:(∀q u,sk q (loc id) u→sk q val u)∨YT id o) (h:ig n0 L μ loc w i o) (hne:i≠id):ig n0 L μ (kT loc id val) w i o:=by
 cases o with
 |box t cells=>
  obtain ⟨b,vs,hl,ho,hh,hm,hs,h1⟩:=h;exact ⟨b,vs,by rw [bQ _ _ hne];exact hl,ho,hh,hm,Dv wB hbase CC hs,h1⟩
 |row e sz xs=>
  obtain ⟨vs,hown,hrc,hm⟩:=h;refine ⟨vs,by rw [bQ _ _ hne];exact hown,hrc,fun g hg=>hm g (by rw [bQ _ _ hne] at hg;exact hg)⟩
 |mp k e ks es=>
  obtain ⟨b,cN,clock,hl,rest⟩:=h;exact ⟨b,cN,clock,by rw [bQ _ _ hne];exact hl,rest⟩
 |mr k e sz ks vs=>
  obtain ⟨b,cN,clock,us,hl,rest⟩:=h;exact ⟨b,cN,clock,us,by rw [bQ _ _ hne];exact hl,rest⟩
 |it s pos=>
  obtain ⟨b,hl,rest⟩:=h;exact ⟨b,by rw [bQ _ _ hne];exact hl,rest⟩
 |lp xs=>
  obtain ⟨us,hl,h1,h2⟩:=h;exact ⟨us,by rw [bQ _ _ hne];exact hl,fun g hg=>h1 g (by rw [bQ _ _ hne] at hg;exact hg),h2⟩
 |rn e sz k e' sz' xs ys=>
  obtain ⟨m,us,vs,hl,rest⟩:=h;exact ⟨m,us,vs,by rw [bQ _ _ hne];exact hl,rest⟩
theorem WV {id b:Nat} {us:List Value} {val:Value} {X:Prop} (hl:loc id= .tuple (.map (some b)::us).toArray):(∀q u,sk q (loc id) u→sk q val u)∨X:= .inl fun q u hq=>by
 rw [hl] at hq;cases q with
 |full=>obtain ⟨A,n,c,e,_⟩:=hq;cases e
 |nr q=>
  obtain ⟨m',us',e,⟨A,n,c,h1⟩,_⟩:=hq;have e':=congrArg Array.toList (Value.tuple.inj e);simp only [List.cons.injEq] at e';rw [h1] at e';cases e'.1
theorem Rel.OP (hR:Rel N w0 μ0 L μ loc st a w) {id:Nat} {o o':Ob} {val:Value} {us:Array Value} (ho:st.ob id=some o) (wB:loc id= .tuple us) (hbase:cV val=cV (loc id)) (hsmall:id<10000) {g:Nat} (hg:fE (loc id) g) {w':World}
  (hch:∀b,b≠g→w'.heap[b]? =w.heap[b]?) (hos:w'.os=w.os) (CJ:w'.tape=w.tape) (hout:w'.output=w.output) (hsz:w'.heap.size=w.heap.size)
  (cu:ig w0.heap.size L μ (kT loc id val) w' id o') (hap:∀j oj,st.ob j=some oj→j≠id→∀q,fE val q→¬fE (loc j) q) (CC:(∀q u,sk q (loc id) u→sk q val u)∨((∀i s,st.env i=some s→s.mentions (id+40000)=false)∧∀i oi,st.ob i=some oi→YT id oi)) (PC:L.q→w.drawn≤w'.drawn:=by exact fun _=>Nat.le_refl _):Rel N w0 μ0 L μ (kT loc id val) { st with ob:=put st.ob id (some o') } a w':=by
 obtain ⟨hown,hlt,oc⟩:=(hR.obs id o ho).block g hg
 have h1:=(hR.drop id).world (w':=w') (Mu.le.refl _) (fun _ _ _ h=> .inl h) (fun b j v h=>by
   have hne:b≠g:=fun e=>by subst e;rw [oc j] at h;cases h
   have:=hR.oZ b j v h
   rw [dK (hch b hne)];exact this) (fun i oi hi b hb=>by
   by_cases e:id=i
   ·subst e;simp [bH] at hi
   ·simp only [aQ _ _ e] at hi
    have hne:b≠g:=fun e'=>by subst e';exact hR.apart id i o oi ho hi e b hg hb
    exact ⟨hch b hne,((hR.obs i oi hi).block b hb).2.2⟩) (fun b hb hl=>by
   refine hch b (fun e=> ?_);subst e;rcases hown with h|⟨v,hv,h⟩
   ·omega
   ·exact hl ⟨id,v,hv,h⟩) hos CJ hout (by omega) PC
 refine ⟨h1.small,h1.names,?_,h1.size,h1.defers,?_,h1.oZ,h1.base,?_,?_,h1.keep,h1.os,h1.tape,h1.output,h1.grown,h1.drawn⟩
 ·intro i v hv hi
  have hne:i≠id:=fun e=>by subst e;rw [hR.names i hsmall] at hv;cases hv
  rw [bQ _ _ hne];exact hR.fix i v hv hi
 ·intro i s hi
  obtain ⟨v,hv,hr⟩:=h1.env i s hi;exact ⟨v,hv,Fj wB hbase (CC.imp (fun h=>h) fun h=>h.1 i s hi) hr⟩
 ·intro i oi hi
  by_cases e:id=i
  ·subst e;simp only [bH,Option.some.injEq] at hi;subst hi;exact cu
  ·simp only [aQ _ _ e] at hi
   exact P3 wB hbase (CC.imp (fun h=>h) fun h=>h.2 i oi hi) (h1.obs i oi (by simpa only [aQ _ _ e] using hi)) (Ne.symm e)
 ·intro i j oi oj hi hj hij q hq
  by_cases ei:id=i
  ·subst ei
   simp only [aQ _ _ hij] at hj;rw [bN] at hq;rw [bQ _ _ (Ne.symm hij)];exact hap j oj hj (Ne.symm hij) q hq
  ·simp only [aQ _ _ ei] at hi
   rw [bQ _ _ (Ne.symm ei)] at hq;by_cases ej:id=j
   ·subst ej
    rw [bN];exact fun L2=>hap i oi hi hij q L2 hq
   ·simp only [aQ _ _ ej] at hj
    rw [bQ _ _ (Ne.symm ej)];exact hR.apart i j oi oj hi hj hij q hq
theorem Rel.Bx (hR:Rel N w0 μ0 L μ loc st a w) (id:Nat):Rel N w0 μ0 L μ loc (st.cn id) a w:=by
 have hu:kT loc id (loc id)=loc:=funext fun i=>by
  by_cases e:i=id
  ·subst e;exact bN _ _ _
  ·exact bQ _ _ e
 have hsub:∀i oi,(st.cn id).ob i=some oi→i≠id∧∃oj,st.ob i=some oj∧oi=oj.cn id:=fun i oi h=>by
  by_cases e:id=i
  ·subst e;simp [St.cn,bH] at h
  ·simp only [St.cn,aQ _ _ e,Option.map_eq_some_iff] at h
   obtain ⟨oj,h1,h2⟩:=h;exact ⟨Ne.symm e,oj,h1,h2.symm⟩
 refine ⟨hR.small,hR.names,hR.fix,hR.size,hR.defers,?_,hR.oZ,hR.base,?_,?_,hR.keep,hR.os,hR.tape,hR.output,hR.grown,hR.drawn⟩
 ·intro i s hi
  simp only [St.cn,Option.map_eq_some_iff] at hi;obtain ⟨s',h1,rfl⟩:=hi;obtain ⟨v,hv,hr⟩:=hR.env i s' h1;exact ⟨v,hv,er hr⟩
 ·intro i oi hi
  obtain ⟨hne,oj,h1,rfl⟩:=hsub i oi hi;have:=wQ (x:=loc id) (hR.obs i oj h1) hne
  rwa [hu] at this
 ·intro i j oi oj hi hj hij
  obtain ⟨_,Ra,h1,_⟩:=hsub i oi hi;obtain ⟨_,Kj,h2,_⟩:=hsub j oj hj;exact hR.apart i j Ra Kj h1 h2 hij
theorem uz {t:TypeId} {m k:Operand} {et:TypeId} {id:Nat} {key:AV} {k' e:TypeId} {sz:Nat} {ks:List AV} {vs:List (Option (List (List AV)))} (h:E9 P st t m k=some (et,id,key,k',e,sz,ks,vs)):
  ∃kt,P.underlying t=some (.map kt et)∧aR P t st m=some (.row id)∧(aR P kt st k).bind eR =some key∧st.ob id=some (.mr k' e sz ks vs)∧fI P kt key=true∧id<10000:=by
 unfold E9 at h;split at h
 ·rename_i kt et' hu
  split at h
  ·rename_i id' key' hm hk
   split at h
   ·rename_i k2 e2 ZB ks2 vs2 cu
    cases hb:(fI P kt key'&&Nat.blt id' 10000) with
    |false=>rw [hb] at h;cases h
    |true=>
     simp only [hb,cond_true,Option.some.injEq,Prod.mk.injEq] at h;obtain ⟨rfl,rfl,rfl,rfl,rfl,rfl,rfl,rfl⟩:=h;rw [Bool.and_eq_true] at hb;exact ⟨kt,hu,hm,hk,cu,hb.1,by simpa [Nat.blt_eq] using hb.2⟩
   ·cases h
  ·cases h
 ·cases h
theorem KX {t:TypeId} {s:Nat} (h:j7 P t=some (.aW s [])) (w:World):(zeroValue t).run P w= .ok (.slice none 0 0) w:=by
 unfold j7 at h;split at h
 ·rename_i i hi
  split at h
  ·cases hz:iw P (oE P 8 t) _<;>rw [hz] at h<;>cases h
  ·rename_i v hne hz
   unfold ofConst at h;split at h
   ·cases h
   ·cases h
   ·cases h
   ·simp [zeroValue,typeInfo,hi,hz]
   ·cases h
   ·cases h
   ·split at h<;>cases h
   ·cases h
  ·cases h
 ·cases h
theorem EF {o:Oper} {t:TypeId} {x:Operand} {d:Nat} (hR:Rel N w0 μ0 L μ loc st a w) (hd:d<N) (cv:o.dst=some d) (ho:o.op= .load t x) (h:qW P st t x d=some st') (hK:iU N w0 μ0 L st' K):o.pE P a w K Q:=by
 unfold qW at h;split at h
 ·rename_i id sz i off hx hagg
  split at h
  ·rename_i e sz' k e' s' xs ys cu
   split at h
   ·rename_i zs hvi
    cases hb:(Nat.beq sz sz'&&Nat.beq off k&& !(Nat.beq id d)&&Nat.blt id 10000) with
    |false=>rw [hb] at h;cases h
    |true=>
    rw [hb] at h;simp only [cond_true,Option.some.injEq] at h;subst h;simp only [Bool.and_eq_true,Bool.not_eq_true'] at hb;obtain ⟨⟨⟨b1,b2⟩,b3⟩,b4⟩:=hb;have e1:=beq_iff.1 b1;have e2:=beq_iff.1 b2;subst e1 e2;have hne:id≠d:=fun e=>by subst e;rw [Nat.beq_refl] at b3;cases b3
    have hid:id<10000:=Nat.blt_eq.mp b4;have hd':d<10000:=Nat.lt_of_lt_of_le hd hR.small;obtain ⟨g,n,c,hbase,QX⟩:=aI hR hx;obtain ⟨m,us,vs,hl,hm,hown,hrc,hk,h2,h3,h4,h5,h6,h7⟩:=hR.obs id _ cu;obtain ⟨u,cells,k1,k2,k3,k4,k5⟩:=h4 i zs hvi;have qD:m= .slice (some ⟨g,0,none⟩) n c:=by
     rw [hl] at hbase;exact hbase
    have hcell:=hown.cells (g:=g) (by rw [qD];rfl) _ _ k2;rw [add_lit,Nat.zero_add] at hcell
    refine dY (v:=u) (w':=w) (by
     unfold execOp;rw [ho]
     simp [QX,Instr.loadAt,Instr.sureAddr,loadVar,lJ hagg,hcell]) ?_
    rw [cv];have hil:i<us.length:=(List.getElem?_eq_some_iff.1 k1).1;have hLid:∀{q},zN w0.heap.size L id q→w0.heap.size≤q:=fun {q} hq=>by
     rcases hq with hq|⟨v,hv,_⟩
     ·exact hq
     ·rw [hR.names id hid] at hv;cases hv
    have r1:=hR.OP (id:=id) (o':= .rn e sz off e' s' xs (ys.set i none)) (val:= .tuple (m::us.set i undef).toArray) (g:=g) (w':=w) cu hl (by rw [hl];rfl) hid (by rw [hl];exact fP.2 (.inl (by rw [qD];rfl))) (fun _ _=>rfl) rfl rfl rfl rfl (by
      have und:∀(q:Nat) (z:Value),(us.set i undef)[q]? =some z→∀g,aU z=some g→us[q]? =some z:=fun q z hz g hg=>by
       by_cases hqi:q=i
       ·rw [hqi,List.getElem?_set_self hil] at hz
        injection hz with hz
        subst hz;simp [undef,aU] at hg
       ·rwa [List.getElem?_set_ne (Ne.symm hqi)] at hz
      refine ⟨m,us.set i undef,vs,bN _ _ _,hm,hown,hrc,hk,by simp [h2],by simp [h3],fun q zs' hq=> ?_,fun q hq=> ?_,fun z hz g hg=> ?_,fun q q' x y hx hy WJ g hg hg'=>h7 q q' x y (und q x hx g hg) (und q' y hy g hg') WJ g hg hg'⟩
      ·have hqi:q≠i:=fun e=>by subst e;simp [List.getElem?_set] at hq
       rw [List.getElem?_set_ne (Ne.symm hqi)] at hq;obtain ⟨u',cells',m1,m2⟩:=h4 q zs' hq;exact ⟨u',cells',by rw [List.getElem?_set_ne (Ne.symm hqi)];exact m1,m2⟩
      ·by_cases hqi:q=i
       ·subst hqi;simp [List.getElem?_set,hil]
       ·rw [List.getElem?_set_ne (Ne.symm hqi)] at hq
        rw [List.getElem?_set_ne (Ne.symm hqi)];exact h5 q hq
      ·rcases List.mem_or_eq_of_mem_set hz with hz|rfl
       ·exact h6 z hz g hg
       ·simp [undef,aU] at hg) (fun j oj hj hji q hq=>by
      refine fun E1=>hR.apart id j _ oj cu hj (Ne.symm hji) q ?_ E1
      rw [hl];rcases fP.1 hq with hq|⟨z,hz,IM⟩
      ·exact fP.2 (.inl hq)
      ·rcases List.mem_or_eq_of_mem_set hz with hz|rfl
       ·exact fP.2 (.inr ⟨z,hz,IM⟩)
       ·simp [undef,aU] at IM) (.inl fun q u hq=>by
      rw [hl] at hq;cases q with
      |full=>obtain ⟨A,n,c,e,_⟩:=hq;cases e
      |nr q=>
       obtain ⟨m',us',e,h1,h2⟩:=hq;have e':=congrArg Array.toList (Value.tuple.inj e);simp only [List.cons.injEq] at e';obtain ⟨rfl,rfl⟩:=e';refine ⟨m,us.set i undef,rfl,h1,fun x hx=> ?_⟩;by_cases hqi:q=i
       ·subst hqi;rw [List.getElem?_set_self hil] at hx;injection hx with hx;exact .inl hx.symm
       ·rw [List.getElem?_set_ne (Ne.symm hqi)] at hx;exact h2 x hx)
    have xx:cV u=u:=by rcases k3.2 with ⟨e1,_⟩|⟨g,cap,cur,e1,_⟩<;>rw [e1]<;>rfl
    have hin:∀g,fE u g→aU u=some g:=fun g hg=>by
     rcases k3.2 with ⟨e1,_⟩|⟨g',cap,cur,e1,_⟩<;>rw [e1] at hg⊢<;>exact eG.1 hg
    have r2:=r1.new (id:=d) (val:=u) (o:= .row e' s' zs) (.inl hd') (by
      refine ⟨cells,by rw [bN];exact k3,k4,fun g hg=> ?_⟩;rw [bN] at hg;obtain ⟨m1,m2⟩:=k5 g (hin g hg)
      exact ⟨.inl (hLid m1),m2⟩) (fun j oj hj hjd g hg=>by
      have CF:=hin g hg;by_cases hji:id=j
      ·subst hji
       rw [bN];intro hb;rcases fP.1 hb with hq|⟨z,hz,IM⟩
       ·exact h6 u (List.mem_of_getElem? k1) g CF hq
       ·obtain ⟨q,hq,eq⟩:=List.mem_iff_getElem.1 hz
        have L2:(us.set i undef)[q]? =some z:=by rw [List.getElem?_eq_getElem hq,eq]
        by_cases hqi:q=i
        ·subst hqi
         simp [List.getElem?_set,hil] at L2;subst L2;simp [undef,aU] at IM
        ·rw [List.getElem?_set_ne (Ne.symm hqi)] at L2
         exact h7 q i z u L2 k1 hqi g IM CF
      ·simp only [aQ _ _ hji] at hj
       rw [bQ _ _ (Ne.symm hji)]
       exact hR.apart id j _ oj cu hj hji g (by rw [hl];exact fP.2 (.inr ⟨u,List.mem_of_getElem? k1,CF⟩)))
    exact hK _ _ _ _ (r2.set (fun i hi=>by injection hi with hi;omega) (Dy xx))
   ·cases h
  ·cases h
 ·cases h
theorem KI {α:Type}:∀{l:List α} {k:Nat} {a:α},l[k]? =some a→l.set k a=l
 |[],_,_,h=>by simp at h
 |x::l,0,a,h=>by simp at h;subst h;rfl
 |x::l,k+1,a,h=>by simp at h;simp [KI h]
theorem vT {sz k:Nat} {u:Value} (hk:k<sz) (hu:rep μ .hole u):∀{xs:List (List AV)} {vs:List Value} {i:Nat},bZ μ sz xs vs→i<xs.length→(∀c∈xs,c[k]? =some AV.hole)→
  bZ μ sz xs (vs.set (i *sz+k) u)∧i *sz+k<vs.length
 |[],_,_,_,h,_=>by simp at h
 |x::xs,vs,i,⟨us,ws,e,h1,h2,h3⟩,hi,hall=>by
  subst e;have hx:=hall x (by simp);have hh:=hu;rw [rep] at hh;cases i with
  |zero=>
   rw [Nat.zero_mul,Nat.zero_add,List.set_append_left _ _ (by omega)];refine ⟨⟨us.set k u,ws,rfl,⟨?_,fun z hz=> ?_⟩,by simp [h2],h3⟩,by simp;omega⟩
   ·have:=wU h1.1 (i:=k) hu
    rwa [KI hx] at this
   ·rcases List.mem_or_eq_of_mem_set hz with hz|rfl
    ·exact h1.2 z hz
    ·exact hh.1
  |succ i=>
   obtain ⟨r1,r2⟩:=vT hk hu h3 (i:=i) (by simpa using hi) fun c hc=>hall c (by simp [hc])
   have e1:(i+1) *sz+k-us.length=i *sz+k:=by rw [h2,Nat.succ_mul];omega
   rw [List.set_append_right _ _ (by rw [h2,Nat.succ_mul];omega),e1];exact ⟨⟨us,_,rfl,h1,h2,r1⟩,by simp only [List.length_append,h2,Nat.succ_mul];omega⟩
theorem Kl {e:TypeId} {sz:Nat} {m u:Value} {n p:Nat} {vs:List Value} (h:w.ownsRow 0 e sz m n vs) (hp:p<vs.length) (hu:u.oneCell'=true):
  ∃g cap w',m= .slice (some ⟨g,0,none⟩) n cap∧(storeCells ⟨g,p,none⟩ [u] 0).run P w= .ok () w'∧w'.ownsRow 0 e sz m n (vs.set p u)∧(∀b,b≠g→w'.heap[b]? =w.heap[b]?)∧w'.os=w.os∧w'.tape=w.tape∧w'.output=w.output∧w'.heap.size=w.heap.size∧w'.drawn=w.drawn:=by
 rcases h.2 with ⟨_,e2⟩|⟨g,cap,cur,e1,_,h2,h3,h4,h5,h6⟩
 ·have:=h.1;rw [e2] at this;simp at this;rw [this] at hp;simp at hp
 ·have hpc:p<cur.size:=by
   have e2:=congrArg List.length h6;simp only [List.length_take,Array.length_toList] at e2;omega
  refine ⟨g,cap,_,e1,run_storeCells_at P g p e [u] 0 cur w h2 (by simp;omega) (by simpa using hu),⟨by simp [h.1], .inr ⟨g,cap,_,e1,Nat.zero_le _,setRow_heap w g cur _ e _ h2,h3,h4,?_,?_⟩⟩,fun b hb=>setRow_other w g b _ hb,rfl,rfl,rfl,by simp,rfl⟩
  ·simp;omega
  ·have e3:cur.toList.take (p+0)++[u]++cur.toList.drop (p+0+[u].length)=cur.toList.set p u:=by
    rw [List.set_eq_take_append_cons_drop,if_pos (by simpa using hpc)];simp
   rw [e3,List.take_set,h6]
theorem Ks {o:Oper} {t:TypeId} {x y:Operand} {id sz i off j:Nat} (hR:Rel N w0 μ0 L μ loc st a w) (cv:o.dst=none) (ho:o.op= .store t x y) (hx:aR P 0 st x=some (.rp id sz i off)) (hy:aR P t st y=some (.row j))
  (h:AS P st t id sz i off j=some st') (hK:iU N w0 μ0 L st' K):o.pE P a w K Q:=by
 unfold AS at h;split at h
 ·rename_i e sz' k e' s' xs ys e2 s2 zs hagg hsz cu xZ
  cases hb:(Nat.beq sz sz'&&Nat.beq off k&&Nat.blt id 10000&&Nat.blt j 10000&&Nat.beq e' e2&&Nat.beq s' s2&&Nat.blt i ys.length&& !(Nat.beq id j)) with
  |false=>rw [hb] at h;cases h
  |true=>
  rw [hb] at h;simp only [cond_true,Option.some.injEq] at h;subst h;simp only [Bool.and_eq_true,Bool.not_eq_true'] at hb;obtain ⟨⟨⟨⟨⟨⟨⟨b1,b2⟩,b3⟩,b4⟩,b5⟩,b6⟩,b7⟩,b8⟩:=hb;have c1:=beq_iff.1 b1;have c2:=beq_iff.1 b2;have c5:=beq_iff.1 b5;have c6:=beq_iff.1 b6;subst c1 c2 c5 c6;have hne:id≠j:=fun e=>by subst e;rw [Nat.beq_refl] at b8;cases b8
  have hid:id<10000:=Nat.blt_eq.mp b3;have hj:j<10000:=Nat.blt_eq.mp b4;have hil:i<ys.length:=Nat.blt_eq.mp b7;obtain ⟨g,n,c,hbase,QX⟩:=aI hR hx;have yR:a.eval y=loc j:=(aI hR hy:a.eval y=cV (loc j)).trans (eO (hR.obs j _ xZ));obtain ⟨cells,hrow,Gg,hgj⟩:=hR.obs j _ xZ;obtain ⟨m,us,vs,hl,hm,hown,hrc,hk,h2,h3,h4,h5,h6,h7⟩:=hR.obs id _ cu;have qD:m= .slice (some ⟨g,0,none⟩) n c:=by
   rw [hl] at hbase;exact hbase
  have WC:rep μ .hole (loc j):=by
   rcases hrow.2 with ⟨e1,_⟩|⟨g',cap,cur,e1,_⟩<;>rw [e1]<;>simp [rep,Value.oneCell',Value.cells]
  have hone:(loc j).oneCell'=true∧(loc j).cells= #[loc j]:=by simpa [rep] using WC
  obtain ⟨x4,hp⟩:=vT hk.1 WC hrc (i:=i) (by omega) hk.2;obtain ⟨g',cap,w',e1,hrun,hown',hch,hos,CJ,hout,hsize,PC⟩:=Kl (P:=P) hown hp hone.1;have eg:g=g':=by rw [qD] at e1;simp at e1;exact e1.1
  subst eg;have hin:∀q,fE (loc j) q→aU (loc j)=some q:=fun q hq=>by
   rcases hrow.2 with ⟨e1,_⟩|⟨g',cap,cur,e1,_⟩<;>rw [e1] at hq⊢<;>exact eG.1 hq
  have hfree:∀q,aU (loc j)=some q→¬fE (loc id) q:=fun q hq=>hR.apart j id _ _ xZ cu (Ne.symm hne) q (.inl hq)
  have Uu:∀q,aU (loc j)=some q→aU m≠some q:=fun q hq e=>hfree q hq (by rw [hl];exact fP.2 (.inl e))
  have hbu:∀u∈us,∀q,aU u=some q→aU (loc j)≠some q:=fun u hu q hq e=>hfree q e (by rw [hl];exact fP.2 (.inr ⟨u,hu,hq⟩))
  have hmg:aU m=some g:=by rw [qD];rfl
  refine yP (w':=w') (by
   unfold execOp;rw [ho];have h1:(a.eval y).cells.size=1:=by rw [yR,hone.2];rfl
   have h2:(a.eval y).cells.toList=[loc j]:=by rw [yR,hone.2]
   simp only [Instr.storeAt,QX,Instr.sureAddr,Sem.run_bind,Sem.run_pure,Result.andThen_ok,storeVar,gl hsz,h1,h2,ne_eq,not_true_eq_false,if_false,hrun]) ?_
  rw [cv];have hob1:((st.cn j).cn (id+40000)).ob id=some (.rn e sz off e' s' xs ys):=by
   have hne2:id+40000≠id:=by omega
   simp [St.cn,aQ _ _ (Ne.symm hne),aQ _ _ hne2,cu,Ob.cn]
  have hnm:∀(s:SV) (q:Nat),(s.cn q).mentions q=false:=fun s q=>by
   unfold SV.cn;cases h:s.mentions q with
   |true=>rfl
   |false=>exact h
  have iu:i<us.length:=by omega
  refine hK _ _ _ _ (((hR.Bx j).Bx (id+40000)).OP (id:=id) (o':= .rn e sz off e' s' xs (ys.set i (some zs))) (val:= .tuple (m::us.set i (loc j)).toArray) (g:=g) (w':=w') hob1 hl (by rw [hl];rfl) hid (by rw [hl];exact fP.2 (.inl hmg)) hch hos CJ hout hsize ?_ (fun q oj hq hqi z hz IM=> ?_) (.inr ⟨fun t s hs=>by
   simp only [St.cn,Option.map_eq_some_iff] at hs;obtain ⟨s',_,rfl⟩:=hs;exact hnm _ _,fun t o ho'=>by
   by_cases e:id+40000=t
   ·subst e;simp [St.cn,bH] at ho'
   ·simp only [St.cn,aQ _ _ e,Option.map_eq_some_iff] at ho'
    obtain ⟨o1,_,rfl⟩:=ho';cases o1<;>simp only [Ob.cn,YT];intro c hc;obtain ⟨c',_,rfl⟩:=List.mem_map.1 hc
    exact hnm _ _⟩) (fun _=>by rw [PC];exact Nat.le_refl _))
  ·have split:∀q z,(us.set i (loc j))[q]? =some z→us[q]? =some z∧q≠i∨q=i∧z=loc j:=fun q z hz=>by
    by_cases hq:q=i
    ·subst hq
     rw [List.getElem?_set_self iu] at hz;injection hz with hz
     exact .inr ⟨rfl,hz.symm⟩
    ·rw [List.getElem?_set_ne (Ne.symm hq)] at hz;exact .inl ⟨hz,hq⟩
   refine ⟨m,us.set i (loc j),vs.set (i *sz+off) (loc j),bN _ _ _,hm,hown',x4,hk,by simp [h2],by simp [h3],fun q zs' hq=> ?_,fun q hq=> ?_,fun z hz q hq=> ?_,fun q q' z z' hz Zs WJ b hb hb'=> ?_⟩
   ·by_cases hqi:q=i
    ·subst hqi
     rw [List.getElem?_set_self hil] at hq;simp only [Option.some.injEq] at hq;subst hq;refine ⟨loc j,cells,by rw [List.getElem?_set_self iu],by rw [List.getElem?_set_self hp],gL hrow (fun b hb=>hch b fun e=>by subst e;exact Uu b hb hmg),Gg,fun b hb=> ?_⟩;obtain ⟨m1,m2⟩:=hgj b (.inl hb);rcases m1 with m1|⟨v,hv,_⟩
     ·exact ⟨.inl m1,m2⟩
     ·rw [hR.names j hj] at hv;cases hv
    ·rw [List.getElem?_set_ne (Ne.symm hqi)] at hq
     obtain ⟨u',cells',m1,m2,m3,m4,m5⟩:=h4 q zs' hq;have hpq:i *sz+off≠q *sz+off:=fun e=>hqi (Nat.eq_of_mul_eq_mul_right (Nat.lt_of_le_of_lt (Nat.zero_le _) hk.1) (by omega:q *sz=i *sz))
     exact ⟨u',cells',by rw [List.getElem?_set_ne (Ne.symm hqi)];exact m1,by rw [List.getElem?_set_ne hpq];exact m2,gL m3 (fun b hb=>hch b fun e=>by subst e;exact h6 u' (List.mem_of_getElem? m1) b hb hmg),m4,m5⟩
   ·have hqi:q≠i:=fun e=>by subst e;rw [List.getElem?_set_self hil] at hq;simp at hq
    rw [List.getElem?_set_ne (Ne.symm hqi)] at hq;rw [List.getElem?_set_ne (Ne.symm hqi)];exact h5 q hq
   ·rcases List.mem_or_eq_of_mem_set hz with hz|rfl
    ·exact h6 z hz q hq
    ·exact Uu q hq
   ·rcases split q z hz with ⟨JS,_⟩|⟨e1,e2⟩<;>rcases split q' z' Zs with ⟨WO,_⟩|⟨e3,e4⟩
    ·exact h7 q q' z z' JS WO WJ b hb hb'
    ·rw [e4] at hb';exact hbu z (List.mem_of_getElem? JS) b hb hb'
    ·rw [e2] at hb;exact hbu z' (List.mem_of_getElem? WO) b hb' hb
    ·exact WJ (e1.trans e3.symm)
  ·have hq4:id+40000≠q:=fun e=>by subst e;simp [St.cn,bH] at hq
   rw [St.cn] at hq;simp only [aQ _ _ hq4,Option.map_eq_some_iff] at hq;obtain ⟨oj0,hq,_⟩:=hq;have E1:q≠j:=fun e=>by subst e;simp [St.cn,bH] at hq
   simp only [St.cn,aQ _ _ (Ne.symm E1),Option.map_eq_some_iff] at hq;obtain ⟨Kj,L2,_⟩:=hq;rcases fP.1 hz with hz|⟨u,hu,hz⟩
   ·exact hR.apart id q _ Kj cu L2 (Ne.symm hqi) z (by rw [hl];exact fP.2 (.inl hz)) IM
   ·rcases List.mem_or_eq_of_mem_set hu with hu|rfl
    ·exact hR.apart id q _ Kj cu L2 (Ne.symm hqi) z (by rw [hl];exact fP.2 (.inr ⟨u,hu,hz⟩)) IM
    ·exact hR.apart j q _ Kj xZ L2 (Ne.symm E1) z (.inl hz) IM
 ·cases h
theorem Gu {o:Oper} {x:Operand} {id d:Nat} (hR:Rel N w0 μ0 L μ loc st a w) (hd:d<N) (cv:o.dst=some d) (ho:o.op= .assign x) (hx:aR P o.type st x=some (.row id)) (h:MW st id d=some st') (hK:iU N w0 μ0 L st' K):o.pE P a w K Q:=by
 unfold MW at h;split at h
 ·rename_i e sz xs cu
  cases Ep:Nat.beq id d with
  |true=>
   rw [Ep] at h;simp only [cond_true,Option.some.injEq] at h;subst h;have:=beq_iff.1 Ep;subst this;have pH:a.eval x=loc id:=(aI hR hx:a.eval x=cV (loc id)).trans (eO (hR.obs id _ cu));refine dY (v:=loc id) (w':=w) (by unfold execOp;rw [ho];simp [pH]) ?_;rw [cv];exact hK _ _ _ _ (hR.set (sv:= .row id) (fun i hi=>by injection hi with hi;omega) (show loc id=cV (loc id) from (eO (hR.obs id _ cu)).symm))
  |false=>
  rw [Ep] at h;simp only [cond_false] at h;cases hb:Nat.blt id 10000 with
  |false=>rw [hb] at h;cases h
  |true=>
   rw [hb] at h;simp only [cond_true,Option.some.injEq] at h;subst h;have hid:id<10000:=Nat.blt_eq.mp hb;have hne:id≠d:=fun e=>by subst e;rw [Nat.beq_refl] at Ep;cases Ep
   have hd':d<10000:=Nat.lt_of_lt_of_le hd hR.small;have pH:a.eval x=loc id:=(aI hR hx:a.eval x=cV (loc id)).trans (eO (hR.obs id _ cu));obtain ⟨vs,hown,hrc,hm⟩:=hR.obs id _ cu;have hbase:=eO (hR.obs id _ cu);refine dY (v:=loc id) (w':=w) (by unfold execOp;rw [ho];simp [pH]) ?_;rw [cv]
   have r1:=(hR.Bx id).new (id:=d) (val:=loc id) (o:= .row e sz xs) (.inl hd') (by
     refine ⟨vs,by rw [bN];exact hown,hrc,fun g hg=> ?_⟩;rw [bN] at hg;obtain ⟨m1,m2⟩:=hm g hg;rcases m1 with m1|⟨v,hv,_⟩
     ·exact ⟨.inl m1,m2⟩
     ·rw [hR.names id hid] at hv;cases hv) (fun j oj hj hjd g hg=>by
     by_cases hji:id=j
     ·subst hji;simp [St.cn,bH] at hj
     ·simp only [St.cn,aQ _ _ hji,Option.map_eq_some_iff] at hj
      obtain ⟨Kj,hj',_⟩:=hj
      exact hR.apart id j _ Kj cu hj' hji g hg)
   exact hK _ _ _ _ (r1.set (fun i hi=>by injection hi with hi;omega) (Dy hbase))
 ·cases h
theorem Pk {o:Oper} {t:TypeId} {m k:Operand} {d:Nat} (hR:Rel N w0 μ0 L μ loc st a w) (hd:d<N) (cv:o.dst=some d) (ho:o.op= .lookup t m k false) (h:Fa P st t m k d=some st') (hK:iU N w0 μ0 L st' K):o.pE P a w K Q:=by
 unfold Fa at h;split at h
 ·rename_i et id key k' e sz ks vs hmk
  obtain ⟨kt,hu,hm,hk,cu,hok,hid⟩:=uz hmk;cases rD:Nat.beq id d with
  |true=>rw [rD] at h;cases h
  |false=>
  simp only [rD,cond_false] at h;have hne:id≠d:=fun e=>by subst e;simp [Nat.beq_refl] at rD
  obtain ⟨b,cN,clock,us,hl,hown,hh,oc,h1,h2,h3,h4,h5,h6⟩:=hR.obs id _ cu;have qD:a.eval m= .map (some b):=by
   have:a.eval m=cV (loc id):=aI hR hm;rw [this,hl];rfl
  have hkr:=dr hR hk;have hd':d<10000:=Nat.lt_of_lt_of_le hd hR.small;split at h
  ·rename_i i hf
   have D9:=jA hkr hok h1 hf w;obtain ⟨ent,he,hrun,_⟩:=D9;split at h
   ·rename_i xs hvi
    injection h with h;subst h
    obtain ⟨u,cells,k1,k2,k3,k4,k5⟩:=h4 i xs hvi;have hval:u=ent.val:=by
     have he':cN[i]? =some ent:=by simpa using he
     simp [he'] at k2;exact k2.symm
    refine dY (v:=ent.val) (w':=w) (by
     unfold execOp;rw [ho]
     simp [qD,Instr.lookup,run_underlying hu,eL hh,eV hkr hok,hrun]) ?_
    rw [cv,←hval];have hil:i<us.length:=(List.getElem?_eq_some_iff.1 k1).1
    have r1:=hR.OP (id:=id) (o':= .mr k' e sz ks (vs.set i none)) (val:= .tuple (.map (some b)::us.set i undef).toArray) (g:=b) (w':=w) cu hl (by rw [hl];rfl) hid (by rw [hl];exact jC.2 (.inl rfl)) (fun _ _=>rfl) rfl rfl rfl rfl (by
      refine ⟨b,cN,clock,us.set i undef,bN _ _ _,hown,hh,oc,h1,by simp [h2],by simp [h3],fun q ys hq=> ?_,fun q hq=> ?_,fun q q' x y hx hy WJ g hg=> ?_⟩
      ·have hqi:q≠i:=fun e=>by subst e;simp [List.getElem?_set] at hq
       rw [List.getElem?_set_ne (Ne.symm hqi)] at hq;obtain ⟨u',cells',m1,m2⟩:=h4 q ys hq;exact ⟨u',cells',by rw [List.getElem?_set_ne (Ne.symm hqi)];exact m1,m2⟩
      ·by_cases hqi:q=i
       ·subst hqi;simp [List.getElem?_set,hil]
       ·rw [List.getElem?_set_ne (Ne.symm hqi)] at hq
        rw [List.getElem?_set_ne (Ne.symm hqi)];exact h5 q hq
      ·have und:∀(q:Nat) (z:Value),(us.set i undef)[q]? =some z→∀g,aU z=some g→us[q]? =some z:=fun q z hz g hg=>by
        by_cases hqi:q=i
        ·rw [hqi,List.getElem?_set_self hil] at hz
         injection hz with hz
         subst hz;simp [undef,aU] at hg
        ·rwa [List.getElem?_set_ne (Ne.symm hqi)] at hz
       intro hg'
       exact h6 q q' x y (und q x hx g hg) (und q' y hy g hg') WJ g hg hg') (fun j oj hj hji q hq=>by
      refine fun E1=>hR.apart id j _ oj cu hj (Ne.symm hji) q ?_ E1
      rw [hl];rcases jC.1 hq with rfl|⟨z,hz,IM⟩
      ·exact jC.2 (.inl rfl)
      ·rcases List.mem_or_eq_of_mem_set hz with hz|rfl
       ·exact jC.2 (.inr ⟨z,hz,IM⟩)
       ·simp [undef,aU] at IM)
    have xx:cV u=u:=by rcases k3.2 with ⟨e1,_⟩|⟨g,cap,cur,e1,_⟩<;>rw [e1]<;>rfl
    have hin:∀g,fE u g→aU u=some g:=fun g hg=>by
     rcases k3.2 with ⟨e1,_⟩|⟨g',cap,cur,e1,_⟩<;>rw [e1] at hg⊢<;>exact eG.1 hg
    have r2:=(r1 (WV hl)).new (id:=d) (val:=u) (o:= .row e sz xs) (.inl hd') (by
      refine ⟨cells,by rw [bN];exact k3,k4,fun g hg=> ?_⟩;rw [bN] at hg;obtain ⟨m1,m2⟩:=k5 g (hin g hg)
      exact ⟨.inl m1,m2⟩) (fun j oj hj hjd g hg=>by
      have CF:=hin g hg;by_cases hji:id=j
      ·subst hji
       rw [bN];intro hb;rcases jC.1 hb with rfl|⟨z,hz,IM⟩
       ·
        rcases k3.2 with ⟨e1,_⟩|⟨g',cap,cur,e1,_,hg',_⟩
        ·rw [e1] at CF;simp [aU] at CF
        ·rw [e1] at CF;simp [aU] at CF;subst CF;rw [hh] at hg';cases hg'
       ·obtain ⟨q,hq,eq⟩:=List.mem_iff_getElem.1 hz
        have L2:(us.set i undef)[q]? =some z:=by rw [List.getElem?_eq_getElem hq,eq]
        by_cases hqi:q=i
        ·subst hqi
         simp [List.getElem?_set,hil] at L2;subst L2;simp [undef,aU] at IM
        ·rw [List.getElem?_set_ne (Ne.symm hqi)] at L2
         exact h6 q i z u L2 k1 hqi g IM CF
      ·simp only [aQ _ _ hji] at hj
       rw [bQ _ _ (Ne.symm hji)]
       exact hR.apart id j _ oj cu hj hji g (by rw [hl];exact jC.2 (.inr ⟨u,List.mem_of_getElem? k1,CF⟩)))
    exact hK _ _ _ _ (r2.set (fun i hi=>by injection hi with hi;omega) (Dy xx))
   ·cases h
  ·rename_i hf
   split at h
   ·rename_i s0 e' s hz hs
    split at h
    ·rename_i dc
     obtain ⟨rfl,rfl,hpos⟩:=dc;injection h with h;subst h
     have D9:=jA hkr hok h1 hf w;have Yz:=KX hz w
     refine dY (v:= .slice none 0 0) (w':=w) (by
      unfold execOp;rw [ho]
      simp [qD,Instr.lookup,run_underlying hu,eL hh,eV hkr hok,D9,Yz]) ?_
     rw [cv];refine hK _ _ _ _ ((hR.new (id:=d) (val:= .slice none 0 0) (o:= .row e s []) (.inl hd') ?_ (fun j oj hj hne g hg=>by simp [fE,aU] at hg)).set (fun i hi=>by injection hi with hi;omega) (Dy rfl));refine ⟨[],⟨by simp, .inl ⟨bN _ _ _,rfl⟩⟩,rfl,fun g hg=> ?_⟩;rw [bN] at hg;simp [fE,aU] at hg
    ·cases h
   ·cases h
  ·cases h
 ·cases h
theorem NY {o:Oper} {t kt et:TypeId} {m k x:Operand} {id:Nat} {key:AV} {k' e:TypeId} {sz:Nat} {ks ks':List AV} {vs vs':List (Option (List (List AV)))} {xs:List (List AV)} {cells:List Value}
  (hR:Rel N w0 μ0 L μ loc st a w) (cv:o.dst=none) (ho:o.op= .mapUpdate t m k x∨o.op= .insert t m k x) (hu:P.underlying t=some (.map kt et)) (qD:a.eval m=cV (loc id)) (hkr:rep μ key (a.eval k)) (hok:fI P kt key=true)
  (cu:st.ob id=some (.mr k' e sz ks vs)) (hid:id<10000) (hput:vr key (some xs) ks vs=some (ks',vs')) (hrow:w.ownsRow 0 e sz (a.eval x) xs.length cells) (hrc:bZ μ sz xs cells)
  (hg:∀g,aU (a.eval x)=some g→w0.heap.size≤g∧∀j,μ g j=none) (hfree:∀j oj,st.ob j=some oj→∀g,aU (a.eval x)=some g→¬fE (loc j) g)
  (hK:iU N w0 μ0 L { st with ob:=put st.ob id (some (.mr k' e sz ks' vs')) } K):o.pE P a w K Q:=by
 obtain ⟨b,cN,clock,us,hl,hown,hh,oc,h1,h2,h3,h4,h5,h6⟩:=hR.obs id _ cu;have hmv':a.eval m= .map (some b):=by rw [qD,hl];rfl
 cases hf:j8 key ks with
 |none=>simp [vr,hf] at hput
 |some r=>
 obtain ⟨fH,clock',hrun,q1,q2,_⟩:=vP (x:=a.eval x) hu hh hkr hok h1 hf;have hlt:=(Array.getElem?_eq_some_iff.1 hh).1;have xx:∀g,fE (a.eval x) g→aU (a.eval x)=some g:=fun g hg=>by
  rcases hrow.2 with ⟨e1,_⟩|⟨g',cap,cur,e1,_⟩<;>rw [e1] at hg⊢<;>exact eG.1 hg
 have JP:aU (a.eval x)≠some b:=fun e=>by
  rcases hrow.2 with ⟨e1,_⟩|⟨g',cap,cur,e1,_,hg',_⟩
  ·rw [e1] at e;simp [aU] at e
  ·rw [e1] at e;simp [aU] at e;subst e;rw [hh] at hg';cases hg'
 have hnu:∀u∈us,∀g,aU u=some g→aU (a.eval x)≠some g:=fun u hu g CF hgx=>hfree id _ cu g hgx (by rw [hl];exact jC.2 (.inr ⟨u,hu,CF⟩))
 have other:∀(u:Value) (cs:List Value) (ys:List (List AV)),w.ownsRow 0 e sz u ys.length cs→aU u≠some b→World.ownsRow { w with heap:=w.heap.setIfInBounds b (.map fH clock') } 0 e sz u ys.length cs:=fun u cs ys hu hub=>
  gL hu (fun g hg=>by
   have:b≠g:=fun e=>hub (by rw [e];exact hg)
   simp only [];rw [Array.getElem?_setIfInBounds_ne this])
 have hub:∀u∈us,aU u≠some b:=fun u hu e=>by
  obtain ⟨i,ys,m1,m2⟩:=MZ h2 h5 hu e;obtain ⟨u',cells',n1,n2,n3,_⟩:=h4 i ys m1;rw [m2] at n1;injection n1 with n1;subst n1
  rcases n3.2 with ⟨e1,_⟩|⟨g',cap,cur,e1,_,hg',_⟩
  ·rw [e1] at e;simp [aU] at e
  ·rw [e1] at e;simp [aU] at e;subst e;rw [hh] at hg';cases hg'
 have fin:∀us',(∀u∈us',u∈us∨u=a.eval x)→ig w0.heap.size L μ (kT loc id (.tuple (.map (some b)::us').toArray)) { w with heap:=w.heap.setIfInBounds b (.map fH clock') } id (.mr k' e sz ks' vs')→o.pE P a w K Q:=fun us' lI qE=>by
  have r1:=hR.OP (id:=id) (val:= .tuple (.map (some b)::us').toArray) (g:=b) (w':={ w with heap:=w.heap.setIfInBounds b (.map fH clock') }) cu hl (by rw [hl];rfl) hid (by rw [hl];exact jC.2 (.inl rfl))
   (fun b' hb'=>by simp only [];rw [Array.getElem?_setIfInBounds_ne (fun e=>hb' e.symm)]) rfl rfl rfl (by simp) qE (fun j oj hj hji q hq=>by
    rcases jC.1 hq with rfl|⟨z,hz,IM⟩
    ·exact fun E1=>hR.apart id j _ oj cu hj (Ne.symm hji) q (by rw [hl];exact jC.2 (.inl rfl)) E1
    ·rcases lI z hz with hz|rfl
     ·exact fun E1=>hR.apart id j _ oj cu hj (Ne.symm hji) q (by rw [hl];exact jC.2 (.inr ⟨z,hz,IM⟩)) E1
     ·exact hfree j oj hj q IM)
  have:((execOp a.eval o).run P w)= .ok .skip { w with heap:=w.heap.setIfInBounds b (.map fH clock') }:=by
   unfold execOp;rcases ho with ho|ho<;>rw [ho]<;>simp [hmv',hrun]
  exact yP this (by rw [cv];exact hK _ _ _ _ (r1 (WV hl)))
 cases r with
 |none=>
  simp only [vr,hf,Option.some.injEq,Prod.mk.injEq] at hput;obtain ⟨rfl,rfl⟩:=hput;obtain ⟨c1,c2⟩:=q1 rfl;have hsize:fH.size=cN.size+1:=by have:=congrArg List.length c2;simpa using this
  refine fin (us++[a.eval x]) (fun u hu=>by simpa using hu) ⟨b,fH,clock',us++[a.eval x],bN _ _ _,hown,by simp [hlt],oc,c1,by simp [h2],by simp [hsize,h3],fun i ys hi=> ?_,fun i hi=> ?_,fun i j u v hu hv hij g CF Sf=> ?_⟩
  ·by_cases hil:i<vs.length
   ·rw [List.getElem?_append_left hil] at hi
    obtain ⟨u,cs,n1,n2,n3,n4,n5⟩:=h4 i ys hi;exact ⟨u,cs,by rw [List.getElem?_append_left (by omega)];exact n1,by rw [c2,List.getElem?_append_left (by simp;omega)];exact n2,other u cs ys n3 (hub u (List.mem_of_getElem? n1)),n4,n5⟩
   ·rw [List.getElem?_append_right (by omega)] at hi
    have hi0:i-vs.length=0:=by
     have:=(List.getElem?_eq_some_iff.1 hi).1;simp at this;omega
    rw [hi0] at hi;simp at hi;subst hi;refine ⟨a.eval x,cells,?_,?_,other _ _ _ hrow JP,hrc,hg⟩
    ·rw [List.getElem?_append_right (by omega),h2,hi0];rfl
    ·rw [c2,List.getElem?_append_right (by simp;omega)];simp [h3,hi0]
  ·by_cases hil:i<vs.length
   ·rw [List.getElem?_append_left hil] at hi
    rw [List.getElem?_append_left (by omega)];exact h5 i hi
   ·rw [List.getElem?_append_right (by omega)] at hi
    have hi0:i-vs.length=0:=by
     have:=(List.getElem?_eq_some_iff.1 hi).1;simp at this;omega
    rw [hi0] at hi;simp at hi
  ·have split:∀q z,(us++[a.eval x])[q]? =some z→(us[q]? =some z)∨(q=us.length∧z=a.eval x):=fun q z hz=>by
    by_cases hq:q<us.length
    ·rw [List.getElem?_append_left hq] at hz;exact .inl hz
    ·rw [List.getElem?_append_right (by omega)] at hz
     have h0:q-us.length=0:=by
      have:=(List.getElem?_eq_some_iff.1 hz).1;simp at this;omega
     rw [h0] at hz;simp at hz;exact .inr ⟨by omega,hz.symm⟩
   rcases split i u hu with JS|⟨e1,e2⟩<;>rcases split j v hv with WO|⟨e3,e4⟩
   ·exact h6 i j u v JS WO hij g CF Sf
   ·rw [e4] at Sf;exact hnu u (List.mem_of_getElem? JS) g CF Sf
   ·rw [e2] at CF;exact hnu v (List.mem_of_getElem? WO) g Sf CF
   ·exact hij (e1.trans e3.symm)
 |some p=>
  simp only [vr,hf,Option.some.injEq,Prod.mk.injEq] at hput;obtain ⟨rfl,rfl⟩:=hput;obtain ⟨c1,c2,vh⟩:=q2 p rfl;have hsize:fH.size=cN.size:=by have:=congrArg List.length c2;simpa using this
  have hpu:p<us.length:=by omega
  refine fin (us.set p (a.eval x)) (fun u hu=>List.mem_or_eq_of_mem_set hu) ⟨b,fH,clock',us.set p (a.eval x),bN _ _ _,hown,by simp [hlt],oc,c1,by simp [h2],by simp [hsize,h3],fun i ys hi=> ?_,fun i hi=> ?_,fun i j u v hu hv hij g CF Sf=> ?_⟩
  ·by_cases WD:i=p
   ·subst WD
    rw [List.getElem?_set] at hi;simp [show i<vs.length by omega] at hi;subst hi;refine ⟨a.eval x,cells,by simp [List.getElem?_set,hpu],by rw [c2];simp [List.getElem?_set,vh],other _ _ _ hrow JP,hrc,hg⟩
   ·rw [List.getElem?_set_ne (Ne.symm WD)] at hi
    obtain ⟨u,cs,n1,n2,n3,n4,n5⟩:=h4 i ys hi;exact ⟨u,cs,by rw [List.getElem?_set_ne (Ne.symm WD)];exact n1,by rw [c2,List.getElem?_set_ne (Ne.symm WD)];exact n2,other u cs ys n3 (hub u (List.mem_of_getElem? n1)),n4,n5⟩
  ·by_cases WD:i=p
   ·subst WD
    rw [List.getElem?_set] at hi;simp at hi
   ·rw [List.getElem?_set_ne (Ne.symm WD)] at hi
    rw [List.getElem?_set_ne (Ne.symm WD)];exact h5 i hi
  ·have split:∀q z,(us.set p (a.eval x))[q]? =some z→(us[q]? =some z)∨(q=p∧z=a.eval x):=fun q z hz=>by
    by_cases hq:q=p
    ·subst hq
     simp [List.getElem?_set,hpu] at hz;exact .inr ⟨rfl,hz.symm⟩
    ·rw [List.getElem?_set_ne (Ne.symm hq)] at hz;exact .inl hz
   rcases split i u hu with JS|⟨e1,e2⟩<;>rcases split j v hv with WO|⟨e3,e4⟩
   ·exact h6 i j u v JS WO hij g CF Sf
   ·rw [e4] at Sf;exact hnu u (List.mem_of_getElem? JS) g CF Sf
   ·rw [e2] at CF;exact hnu v (List.mem_of_getElem? WO) g Sf CF
   ·exact hij (e1.trans e3.symm)
theorem Js {o:Oper} {t:TypeId} {m k x:Operand} (hR:Rel N w0 μ0 L μ loc st a w) (cv:o.dst=none) (ho:o.op= .mapUpdate t m k x∨o.op= .insert t m k x) (h:MX P st t m k x=some st') (hK:iU N w0 μ0 L st' K):o.pE P a w K Q:=by
 unfold MX at h;split at h
 ·rename_i et id key k' e sz ks vs hmk
  obtain ⟨kt,hu,hm,hk,cu,hok,hid⟩:=uz hmk;have qD:a.eval m=cV (loc id):=aI hR hm;have hkr:=dr hR hk;split at h
  ·split at h
   ·rename_i e' s hs
    split at h
    ·rename_i dc
     split at h
     ·rename_i ks' vs' hput
      injection h with h;subst h
      have hx:a.eval (.const (.slice none 0 0))= .slice none 0 0:=rfl;exact NY (cells:=[]) hR cv ho hu qD hkr hok cu hid hput (by rw [hx];exact ⟨by simp, .inl ⟨rfl,rfl⟩⟩) rfl (fun g hg=>by rw [hx] at hg;simp [aU] at hg) (fun j oj _ g hg=>by rw [hx] at hg;simp [aU] at hg) hK
     ·cases h
    ·cases h
   ·cases h
  ·split at h
   ·rename_i j hx
    split at h
    ·rename_i e' s xs xZ
     split at h
     ·rename_i dc
      obtain ⟨rfl,rfl,hj⟩:=dc;split at h
      ·rename_i ks' vs' hput
       injection h with h;subst h
       have hne:id≠j:=fun e=>by subst e;rw [cu] at xZ;cases xZ
       have pH:a.eval x=loc j:=(aI hR hx:a.eval x=cV (loc j)).trans (eO (hR.obs j _ xZ));obtain ⟨cells,hrow,hrc,hgj⟩:=hR.obs j _ xZ;have hob2:(st.cn j).ob id=some (.mr k' e s ks vs):=by simp [St.cn,aQ _ _ (Ne.symm hne),cu,Ob.cn]
       refine NY (cells:=cells) (hR.Bx j) cv ho hu qD hkr hok hob2 hid hput (by rw [pH];exact hrow) hrc (fun g hg=> ?_) (fun i oi hi g hg=> ?_) hK
       ·rw [pH] at hg
        obtain ⟨m1,m2⟩:=hgj g (.inl hg);rcases m1 with m1|⟨v,hv,_⟩
        ·exact ⟨m1,m2⟩
        ·rw [hR.names j hj] at hv;cases hv
       ·rw [pH] at hg
        by_cases e:j=i
        ·subst e;simp [St.cn,bH] at hi
        ·simp only [St.cn,aQ _ _ e,Option.map_eq_some_iff] at hi
         obtain ⟨Ra,hi',_⟩:=hi;exact hR.apart j i _ Ra xZ hi' e g (.inl hg)
      ·cases h
     ·cases h
    ·cases h
   ·cases h
 ·cases h
theorem LJ {o:Oper} {t k e e':TypeId} {s:Nat} {r:Option Operand} {d:Nat} (hR:Rel N w0 μ0 L μ loc st a w) (hd:d<N) (cv:o.dst=some d) (ho:o.op= .makeMap t r) (ht:P.underlying t=some (.map k e))
  (hr:pK P st r=true) (hK:iU N w0 μ0 L ((st.new d (.mr k e' s [] [])).set (some d) (.row d)) K):o.pE P a w K Q:=by
 have hrun:=AI (P:=P) hR ht hr;refine dY (v:= .map (some w.heap.size)) (w':=w.alloc (.map #[] 0)) (by unfold execOp;rw [ho];simp [hrun]) ?_;rw [cv];have h1:=(hR.JO (lq w (.map #[] 0))).new (id:=d) (val:= .tuple (.map (some w.heap.size)::[]).toArray) (o:= .mr k e' s [] []) (.inl (Nat.lt_of_lt_of_le hd hR.small))
  ⟨w.heap.size, #[],0,[],bN _ _ _,hR.grown,(by show (w.heap.push _)[w.heap.size]? =_;simp),qp hR _ (Nat.le_refl _),by simp [br],rfl,rfl,by simp,by simp,by simp⟩ (fun j oj hj hne g hg=>by
  rcases jC.1 hg with rfl|⟨u,hu,_⟩
  ·intro hb
   have:=((hR.obs j oj hj).block _ hb).2.1;omega
  ·simp at hu)
 exact hK _ _ _ _ (h1.set (fun i hi=>by injection hi with hi;omega) (by show _=cV (kT _ _ _ _);rw [bN];rfl))
theorem Pn {o:Oper} {t:TypeId} {x:Operand} {d:Nat} {s:List UInt8} (hR:Rel N w0 μ0 L μ loc st a w) (hd:d<N) (cv:o.dst=some d) (ho:o.op= .range t x) (ht:P.underlying t=some .string) (hx:(aR P t st x).bind eR =some (.str s))
  (hK:iU N w0 μ0 L ((st.new d (.it s 0)).set (some d) (.ptr d 0)) K):o.pE P a w K Q:=by
 have hv:=dr hR hx;rw [rep] at hv;refine dY (v:= .pointer (some ⟨w.heap.size,0,none⟩)) (w':=w.alloc (.stringIter ⟨s.toArray⟩ 0)) (by unfold execOp;rw [ho];simp [Instr.range,run_underlying ht,hv,newObj,Sem.run]) ?_;rw [cv];refine hK _ _ _ _ (hR.made hd (fun g hg=>kP.1 hg) ?_ ?_)
 ·exact ⟨w.heap.size,bN _ _ _, .inl hR.grown,(by show (w.heap.push _)[w.heap.size]? =_;simp),qp hR _ (Nat.le_refl _)⟩
 ·exact ⟨w.heap.size,bN _ _ _,rfl⟩
theorem RR {o:Oper} {x:Operand} {d id pos:Nat} {s:List UInt8} (hR:Rel N w0 μ0 L μ loc st a w) (hd:d<N) (cv:o.dst=some d) (ho:o.op= .next x true) (hx:aR P 0 st x=some (.ptr id 0)) (cu:st.ob id=some (.it s pos))
  (hK:if pos<s.length then iU N w0 μ0 L (St.set { st with ob:=put st.ob id (some (.it s (pos+(Utf8.decode ⟨s.toArray⟩ pos).2))) } (some d) (.pv (.dI [.bool true, .int .i64 pos, .int .i32 (Utf8.decode ⟨s.toArray⟩ pos).1]))) K
   else iU N w0 μ0 L (st.set (some d) (.pv (.dI [.bool false]))) K):o.pE P a w K Q:=by
 obtain ⟨b0,hl0,hv⟩:=aI hR hx;obtain ⟨b,hl,hown,hh,oc⟩:=hR.obs id _ cu;rw [hl] at hl0;simp only [Value.pointer.injEq,Option.some.injEq,Addr.mk.injEq,and_true] at hl0;subst hl0;have hsz:(⟨s.toArray⟩:ByteArray).size=s.length:=by simp [ByteArray.size]
 have hlt:=(Array.getElem?_eq_some_iff.1 hh).1;have lD:(getObj b).run P w= .ok (.stringIter ⟨s.toArray⟩ pos) w:=by simp [getObj,Sem.run,hh]
 by_cases hp:pos<s.length
 ·rw [if_pos hp] at hK
  refine dY (v:= .tuple #[.bool true, .int .i64 pos, .int .i32 (Utf8.decode ⟨s.toArray⟩ pos).1]) (w':={ w with heap:=w.heap.setIfInBounds b (.stringIter ⟨s.toArray⟩ (pos+(Utf8.decode ⟨s.toArray⟩ pos).2)) }) (by
   unfold execOp;rw [ho];simp [Instr.next,hv,lD,hsz,hp,goInt]
   simp [setObj,Sem.run,hh]) ?_
  rw [cv]
  have r1:=hR.write cu (o':= .it s (pos+(Utf8.decode ⟨s.toArray⟩ pos).2)) (g:=b) (by rw [hl];exact kP.2 rfl) (w':={ w with heap:=w.heap.setIfInBounds b (.stringIter ⟨s.toArray⟩ (pos+(Utf8.decode ⟨s.toArray⟩ pos).2)) }) (fun b' hb'=>by
   simp only [];rw [Array.getElem?_setIfInBounds_ne (fun e=>hb' e.symm)]) rfl rfl rfl (by simp) ⟨b,hl,hown,by simp [hlt],oc⟩
  refine hK _ _ _ _ (r1.set (fun i hi=>by injection hi with hi;omega) ?_);show rep μ (.dI _) _;rw [rep];exact ⟨[.bool true, .int .i64 pos, .int .i32 (Utf8.decode ⟨s.toArray⟩ pos).1],rfl,bI (by simp [rep]) (bI (by simp [rep]) (bI (by simp [rep]) cK))⟩
 ·rw [if_neg hp] at hK
  refine dY (v:= .tuple #[.bool false]) (w':=w) (by
   unfold execOp;rw [ho]
   simp [Instr.next,hv,lD,hsz,hp]) ?_
  rw [cv];refine hK _ _ _ _ (hR.set (fun i hi=>by injection hi with hi;omega) ?_);show rep μ (.dI _) _;rw [rep];exact ⟨[.bool false],rfl,bI (by simp [rep]) cK⟩
end
end Go.AM
