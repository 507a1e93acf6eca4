/- THE ABSTRACT MACHINE. -/
import Derived.Test.YtfoddgpndoeeaaaGreatDoorAmStep
set_option linter.unusedVariables false
set_option linter.unusedSimpArgs false
namespace Go.AM
open Go.RowKit
section
variable {μ μ':Mu} {loc:Nat→Value}
theorem qu {sz b:Nat} {xs:List (List AV)} {vs:List Value} {off:Nat} (h:bV μ sz xs vs) (hle:μ.le μ') (hc:∀j u,vs[j]? =some u→μ' b (off+j)=some u):fO μ' sz b xs off:=by
 induction xs generalizing vs off with
 |nil=>simp [fO]
 |cons x xs ih=>
  obtain ⟨us,ws,rfl,h1,h2,h3⟩:=h;rw [fO];refine ⟨⟨us,(h1.mono hle).1,h1.2,h2,fun j u hu=>hc j u ?_⟩,ih h3 fun j u hu=> ?_⟩
  ·rw [List.getElem?_append_left (by simpa using (List.getElem?_eq_some_iff.1 hu).1)];exact hu
  ·have:=hc (sz+j) u (by rw [List.getElem?_append_right (by omega),h2];simpa using hu)
   rwa [←Nat.add_assoc] at this
theorem lG {sz:Nat} {xs ys:List (List AV)} {vs us:List Value} (h:bV μ sz xs vs) (k:bV μ sz ys us):bV μ sz (xs++ys) (vs++us):=by
 induction xs generalizing vs with
 |nil=>have:vs=[]:=h;subst this;simpa using k
 |cons x xs ih=>obtain ⟨a,b,rfl,h1,h2,h3⟩:=h;exact ⟨a,b++us,by simp,h1,h2,ih h3⟩
theorem jA {sz:Nat} {z:List AV} {zs:List Value} (h:gq μ z zs) (hl:zs.length=sz):∀n,bV μ sz (List.replicate n z) (List.replicate n zs).flatten
 |0=>rfl
 |n+1=>⟨zs,(List.replicate n zs).flatten,by simp [List.replicate_succ],h,hl,jA h hl n⟩
theorem qv {sz:Nat}:∀(n:Nat) {cs:List AV} {vs:List Value},gq μ cs vs→cs.length=n *sz→bV μ sz (chunks sz n cs) vs
 |0,cs,vs,h,hl=>by
  have:vs=[]:=List.eq_nil_of_length_eq_zero (by rw [h.length];omega);subst this;rfl
 |n+1,cs,vs,h,hl=>by
  rw [Nat.add_mul] at hl;have hv:=h.length;exact ⟨vs.take sz,vs.drop sz,by simp,h.take sz,by simp;omega,qv n (h.drop sz) (by simp;omega)⟩
theorem u6 {z:List AV} {zs:List Value} (h:gq μ z zs):∀n,gq μ (lu z n) (List.replicate n zs).flatten
 |0=>⟨cu,by simp⟩
 |n+1=>by simpa [lu,List.replicate_succ] using h.append (u6 h n)
theorem qt (z:List AV):∀n,(lu z n).length=n *z.length
 |0=>by simp [lu]
 |n+1=>by simp [lu,qt z n,Nat.add_mul];omega
theorem sG (sz:Nat):∀(n:Nat) (l:List AV),(chunks sz n l).length=n
 |0,_=>rfl
 |n+1,l=>by simp [chunks,sG sz n]
theorem dH {id:Nat} {s:SV} {v:Value} (k:cH μ loc s v):cH μ loc (s.cA id) v:=by
 unfold SV.cA;cases s.mentions id with
 |true=>trivial
 |false=>exact k
theorem D4 {id:Nat} {s:SV} {v:Value} {x:AV} (k:cH μ loc s v) (hx:rep μ x (c7 (loc id))):cH μ loc (s.bZ id x) v:=by
 cases s with
 |row j=>
  cases h:Nat.beq j id with
  |true=>
   simp only [SV.bZ,h,cond_true];have:=beq_iff.1 h;subst this;have e:v=c7 (loc j):=k;rw [e];exact hx
  |false=>simp only [SV.bZ,h,cond_false];exact k
 |_=>exact dH k
theorem V7 {id:Nat} {v u:Value} (h:c7 v=u):cH μ (lW loc id v) (.row id) u:=by
 show u=c7 (lW loc id v id);rw [bH,h]
theorem D7 {id:Nat} {v:Value} (h:c7 v=v):cH μ (lW loc id v) (.row id) v:=by
 show v=c7 (lW loc id v id);rw [bH,h]
theorem pn (zc:Array Value) (s:Nat) (hz:zc.size=s) (hs:0<s) (n:Nat):(madeCells zc (n *s)).toList=(List.replicate n zc.toList).flatten:=by
 have key:∀n,(List.range (n *s)).map (fun i=>zc[i % s]!)=(List.replicate n zc.toList).flatten:=by
  intro n
  induction n with
  |zero=>simp
  |succ n ih=>
   rw [Nat.succ_mul,Nat.add_comm,List.range_add,List.map_append,List.map_map];have h1:(List.range s).map (fun i=>zc[i % s]!)=zc.toList:=by
    apply List.ext_getElem?;intro i;simp only [List.getElem?_map,List.getElem?_range];by_cases hi:i<s
    ·simp [hi,List.getElem?_range,Nat.mod_eq_of_lt hi,hz,getElem!_pos,Array.getElem?_eq_getElem (show i<zc.size by omega)]
    ·simp [hi,List.getElem?_eq_none (show zc.toList.length≤i by simp;omega),List.getElem?_eq_none (show (List.range s).length≤i by simp;omega)]
   have h2:((fun i=>zc[i % s]!)∘fun x=>s+x)=fun i=>zc[i % s]! :=by
    funext i;simp [Function.comp]
   rw [h1,h2,ih];simp [List.replicate_succ]
 have:=key n;simpa [madeCells,hz] using this
theorem El (zs:List Value) {l c:Nat} (h:l≤c):(List.replicate c zs).flatten.take (l *zs.length)=(List.replicate l zs).flatten:=by
 obtain ⟨d,rfl⟩:=Nat.exists_eq_add_of_le h;rw [←List.replicate_append_replicate,List.flatten_append,List.take_append_of_le_length (by simp)];exact List.take_of_length_le (by simp)
end
section
variable {P:Program} {N:Nat} {w0:World} {μ0:Mu} {L:ku} {μ:Mu} {loc:Nat→Value} {st st':St} {a:Act} {w:World} {Q:Exit→Act→World→Prop} {K:Act→World→Prop}
theorem u7 {e sz:Nat} {xs:List (List AV)} {u:Value} {cells:List Value} (hown:w.ownsRow 0 e sz u xs.length cells) (hrc:bV μ sz xs cells) {μ':Mu} (hle:μ.le μ')
  (hm:∀b j v,aQ u=some b→yg w b j=some v→μ' b j=some v):rep μ' (.cE sz xs) u:=by
 have hone:=jZ hrc;rw [rep];rcases hown.2 with ⟨e1,e2⟩|⟨g,cap,cur,e1,_,hg,hnc,hcm,_⟩
 ·exact ⟨none,0,by rw [e1,e2],by omega,by simp [maxLen], .inl e2⟩
 ·refine ⟨_,cap,e1,hnc,hcm, .inr ⟨g,0,rfl,qu hrc hle fun j u hu=> ?_⟩⟩
  have:=hown.cells (g:=g) (by rw [e1];rfl) j u hu;rw [add_lit] at this;exact hm g _ u (by rw [e1];rfl) (mX this (hone u (List.mem_of_getElem? hu)))
theorem qD {α:Type}:∀{vs:List (Option α)} {l:List α},gy vs=some l→vs=l.map some
 |[],l,h=>by simp only [gy,Option.some.injEq] at h;subst h;rfl
 |none::vs,l,h=>by simp [gy] at h
 |some x::vs,l,h=>by
  simp only [gy,Option.map_eq_some_iff] at h;obtain ⟨l',h1,rfl⟩:=h;simp [qD h1]
theorem zX {cs:List AV}:∀{k:Nat} {vs:List Value} {u:Value} {a:AV},aU μ cs vs→vs[k]? =some u→rep μ a u→aU μ (cs.set k a) vs:=by
 induction cs with
 |nil=>intro k vs u a h hu _;simp only [aU] at h;subst h;simp at hu
 |cons c cs ih=>
  intro k vs u a h hu hr;obtain ⟨v,us,rfl,h1,h2⟩:=h;cases k with
  |zero=>simp at hu;subst hu;exact ⟨v,us,rfl,hr,h2⟩
  |succ k=>exact ⟨v,us,rfl,h1,ih h2 (by simpa using hu) hr⟩
theorem qw {k sz sz':Nat} {μ':Mu} (hle:μ.le μ') (hk:k<sz):∀{xs:List (List AV)} {l:List (List (List AV))} {vs:List Value},bV μ sz xs vs→xs.length=l.length→
  (∀(i:Nat) zs,l[i]? =some zs→∃u,vs[i *sz+k]? =some u∧rep μ' (.cE sz' zs) u)→bV μ' sz (qg k sz' xs l) vs
 |[],[],vs,h,_,_=>h
 |[],_::_,vs,_,h,_=>by simp at h
 |_::_,[],vs,_,h,_=>by simp at h
 |x::xs,y::l,vs,⟨us,ws,e,h1,h2,h3⟩,hl,hall=>by
  subst e;obtain ⟨u,hu,hr⟩:=hall 0 y (by simp);rw [Nat.zero_mul,Nat.zero_add,List.getElem?_append_left (by omega)] at hu;refine ⟨us,ws,rfl,⟨zX (cV hle _ _ h1.1) hu hr,h1.2⟩,h2,qw hle hk h3 (by simpa using hl) fun i zs hi=> ?_⟩;obtain ⟨u2,Ll,RC⟩:=hall (i+1) zs (by simpa using hi);refine ⟨u2,?_,RC⟩;rw [List.getElem?_append_right (by rw [h2,Nat.succ_mul];omega)] at Ll
  rwa [show (i+1) *sz+k-us.length=i *sz+k by rw [h2,Nat.succ_mul];omega] at Ll
theorem sX {k sz':Nat}:∀{xs:List (List AV)} {l:List (List (List AV))},xs.length=l.length→(qg k sz' xs l).length=xs.length
 |[],[],_=>rfl
 |[],_::_,h=>by simp at h
 |_::_,[],h=>by simp at h
 |x::xs,y::l,h=>by simp [qg,sX (xs:=xs) (l:=l) (by simpa using h)]
theorem KE {n0:Nat} {id:Nat} {o:Ob} {v:AV} (h:gB n0 L μ loc w id o) (hv:o.val=some v) {μ':Mu} (hle:μ.le μ')
  (hm:∀b j v,ff (loc id) b→yg w b j=some v→μ' b j=some v):rep μ' v (c7 (loc id)):=by
 cases o with
 |box t cells=>simp [Ob.val] at hv
 |it s n=>simp [Ob.val] at hv
 |row e sz xs=>
  simp only [Ob.val,Option.some.injEq] at hv;subst hv;rw [eY h];obtain ⟨vs,hown,hrc,_⟩:=h;exact u7 hown hrc hle (fun b j v hb=>hm b j v (.inl hb))
 |mp k e ks es=>
  simp only [Ob.val,Option.some.injEq] at hv;subst hv;rw [JP h];obtain ⟨b,bz,clock,hl,_,hh,_,h1,h2,_⟩:=h;rw [rep,hl];exact .inr ⟨b,_,_,rfl,cV hle _ _ h1,cV hle _ _ h2,hm b 0 _ (by rw [hl];exact lM.2 rfl) (Ag hh)⟩
 |mr k e sz ks vs=>
  simp only [Ob.val,Option.map_eq_some_iff] at hv;obtain ⟨l,hal,rfl⟩:=hv;obtain ⟨b,bz,clock,us,hl,_,hh,_,h1,h2,h3,h4,h5,h6⟩:=h;have hvs:=qD hal;rw [hl,rep];refine .inr ⟨b,_,bz.toList.map (·.val),rfl,cV hle _ _ h1,?_,hm b 0 _ (by rw [hl];exact ig.2 (.inl rfl)) (Ag hh)⟩;have key:∀(l:List (List (List AV))) (es:List Value),es.length=l.length→(∀(i:Nat) xs,l[i]? =some xs→∃u,es[i]? =some u∧rep μ' (.cE sz xs) u)→aU μ' (l.map (.cE sz)) es:=by
   intro l
   induction l with
   |nil=>intro es he _;rw [List.eq_nil_of_length_eq_zero he];exact cu
   |cons x l ih=>
    intro es he hall;cases es with
    |nil=>simp at he
    |cons u es=>
     obtain ⟨u',yc,hr⟩:=hall 0 x (by simp);simp at yc;subst yc
     exact bA hr (ih es (by simpa using he) (fun i xs hi=>by
      obtain ⟨u2,Ll,RC⟩:=hall (i+1) xs (by simpa using hi)
      exact ⟨u2,by simpa using Ll,RC⟩))
  refine key l _ (by simp [h3,hvs]) (fun i xs hi=> ?_);obtain ⟨u,cells,k1,k2,k3,k4,k5⟩:=h4 i xs (by rw [hvs];simp [hi]);exact ⟨u,k2,u7 k3 k4 hle (fun g j v hg=>hm g j v (by rw [hl];exact ig.2 (.inr ⟨u,List.mem_of_getElem? k1,hg⟩)))⟩
 |rn e sz k e' sz' xs ys=>
  simp only [Ob.val,Option.map_eq_some_iff] at hv;obtain ⟨l,hal,rfl⟩:=hv;obtain ⟨m,us,vs,hl,_,hown,hrc,hk,h2,h3,h4,h5,h6,h7⟩:=h;have hvs:=qD hal;have Md:xs.length=l.length:=by rw [h3,hvs,List.length_map]
  rw [hl];show rep μ' _ m;refine u7 (μ:=μ') (by rw [sX Md];exact hown) (qw hle hk.1 hrc Md fun i zs hi=> ?_) (Mu.le.refl _) fun b j v hb hs=>hm b j v (by rw [hl];exact gf.2 (.inl hb)) hs
  obtain ⟨u,cells,k1,k2,k3,k4,k5⟩:=h4 i zs (by rw [hvs];simp [hi]);exact ⟨u,k2,u7 k3 k4 hle (fun g j v hg=>hm g j v (by rw [hl];exact gf.2 (.inr ⟨u,List.mem_of_getElem? k1,hg⟩)))⟩
open Classical in
noncomputable def iP (w:World) (loc:Nat→Value) (id:Nat) (μ:Mu):Mu:=fun b j=>if ff (loc id) b then yg w b j else μ b j
theorem Rel.OZ (hR:Rel N w0 μ0 L μ loc st a w) {id:Nat} {o:Ob} (cz:st.ob id=some o) (hlt:id<10000) (f:SV→SV) (g:Ob→Ob) (hf:∀s v,cH (iP w loc id μ) loc s v→cH (iP w loc id μ) loc (f s) v)
  (hg:∀ob,g ob=match ob with| .box t cells=> .box t (cells.map f)|o=>o):
  μ.le (iP w loc id μ)∧Rel N w0 μ0 L (iP w loc id μ) loc { env:=fun i=>(st.env i).map f,ob:=put (fun i=>(st.ob i).map g) id none } a w:=by
 have hok:=hR.obs id _ cz;have Lh:∀(cs:List SV) (vs:List Value),dZ (iP w loc id μ) loc cs vs→dZ (iP w loc id μ) loc (cs.map f) vs:=by
  intro cs
  induction cs with
  |nil=>intro vs h;exact h
  |cons c cs ih=>rintro vs ⟨u,us,e,h1,h2⟩;exact ⟨u,us,e,hf _ _ h1,ih us h2⟩
 have hle:μ.le (iP w loc id μ):=fun b j v hv=>by
  by_cases hb:ff (loc id) b
  ·have:=(hok.block b hb).2.2 j;rw [this] at hv;cases hv
  ·simpa [iP,hb] using hv
 have S8:∀i oi,i≠id→st.ob i=some oi→∀b,ff (loc i) b→∀j,iP w loc id μ b j=none:=fun i oi hne hi b hb j=>by
  have hn:¬ff (loc id) b:=fun hid=>hR.apart id i _ oi cz hi (fun e=>hne e.symm) b hid hb
  simp only [iP,if_neg hn];exact (hR.obs i oi hi).block b hb|>.2.2 j
 have h1:=(hR.drop id).world (w':=w) (μ':=iP w loc id μ) hle (fun b j v hv=>by
   by_cases hb:ff (loc id) b
   ·rcases (hok.block b hb).1 with hh|⟨v,hh,_⟩
    ·exact .inr hh
    ·rw [hR.names id hlt] at hh;cases hh
   ·exact .inl (by simpa [iP,hb] using hv)) (fun b j v hv=>by
   by_cases hb:ff (loc id) b
   ·simpa [iP,hb] using hv
   ·exact hR.ou b j v (by simpa [iP,hb] using hv)) (fun i oi hi b hb=>by
   by_cases e':id=i
   ·subst e';simp [bD] at hi
   ·simp only [aN _ _ e'] at hi
    exact ⟨rfl,S8 i oi (fun e=>e' e.symm) hi b hb⟩) (fun _ _ _=>rfl) rfl rfl rfl (Nat.le_refl _)
 refine ⟨hle,h1.small,h1.names,h1.fix,h1.size,h1.defers,?_,h1.ou,h1.base,?_,?_,h1.keep,h1.os,h1.tape,h1.output,h1.grown,h1.drawn⟩
 ·intro i s hi
  simp only [] at hi;cases he:st.env i with
  |none=>simp [he] at hi
  |some s'=>
   simp [he] at hi;subst hi;obtain ⟨v,hv,hr⟩:=h1.env i s' he;exact ⟨v,hv,hf _ _ hr⟩
 ·intro i oi hi
  by_cases e':id=i
  ·subst e';simp [bD] at hi
  ·simp only [aN _ _ e'] at hi
   cases ho:st.ob i with
   |none=>simp [ho] at hi
   |some oj=>
    simp [ho] at hi;subst hi;have k:=h1.obs i oj (by simpa only [aN _ _ e'] using ho);rw [hg];cases oj with
    |box t cells=>
     obtain ⟨b,vs,hl,ho',hh,hm,hs,HV⟩:=k;exact ⟨b,vs,hl,ho',hh,hm,Lh _ _ hs,HV⟩
    |row e2 Um xs2=>exact k
    |mp k2 e2 ks2 vs2=>exact k
    |mr k2 e2 s2 ks2 vs2=>exact k
    |it s2 n2=>exact k
    |rn e2 s2 k2 e3 s3 x2 y2=>exact k
 ·intro i j oi oj hi hj hij
  have get:∀k ok,put (fun i=>(st.ob i).map g) id none k=some ok→∃ok',st.ob k=some ok':=fun k ok hk=>by
   by_cases e':id=k
   ·subst e';simp [bD] at hk
   ·simp only [aN _ _ e'] at hk
    cases ho:st.ob k with
    |none=>simp [ho] at hk
    |some x=>exact ⟨x,rfl⟩
  obtain ⟨Mf,hi'⟩:=get i oi hi;obtain ⟨Jh,hj'⟩:=get j oj hj;exact hR.apart i j Mf Jh hi' hj' hij
theorem OW {id:Nat} (h:ot id=true):id<10000:=by simpa [ot,Nat.blt_eq] using h
theorem Rel.bZ (hR:Rel N w0 μ0 L μ loc st a w) {id:Nat} (h:st.bZ id=some st'):∃μ',μ.le μ'∧Rel N w0 μ0 L μ' loc st' a w:=by
 unfold St.bZ at h;split at h
 ·rename_i v hid nS
  injection h with h
  subst h;obtain ⟨o,cz,hval⟩:=Option.bind_eq_some_iff.1 nS;have hok:=hR.obs id _ cz;have hle:μ.le (iP w loc id μ):=fun b j v hv=>by
   by_cases hb:ff (loc id) b
   ·have:=(hok.block b hb).2.2 j;rw [this] at hv;cases hv
   ·simpa [iP,hb] using hv
  have oT:rep (iP w loc id μ) v (c7 (loc id)):=KE hok hval hle fun b j v hb hc=>by simpa [iP,hb] using hc
  exact ⟨_,hR.OZ cz (OW hid) (SV.bZ id v) (Ob.bZ id v) (fun s u hs=>D4 hs oT) (fun ob=>by cases ob<;>rfl)⟩
 ·cases h
theorem Rel.gQ (hR:Rel N w0 μ0 L μ loc st a w) {id:Nat} (h:st.gQ id=some st'):∃μ',μ.le μ'∧Rel N w0 μ0 L μ' loc st' a w:=by
 unfold St.gQ at h;split at h
 ·rename_i t cells hid cz
  split at h
  ·rename_i cs hcs
   injection h with h
   subst h;obtain ⟨b,vs,hl,ho,hh,hm,hs,h1⟩:=hR.obs id _ cz;have hle:μ.le (iP w loc id μ):=fun b' j v hv=>by
    by_cases hb:ff (loc id) b'
    ·have:=((hR.obs id _ cz).block b' hb).2.2 j;rw [this] at hv;cases hv
    ·simpa [AM.iP,hb] using hv
   have hc:gq (iP w loc id μ) cs vs:=⟨cV hle _ _ (wV hcs hs),h1⟩
   refine ⟨_,hR.OZ cz (OW hid) (SV.gQ id cs) (Ob.gQ id cs) (fun s u hs=> ?_) (fun ob=>by cases ob<;>rfl)⟩;cases s with
   |ptr j off=>
    simp only [SV.gQ];cases hj:Nat.beq j id with
    |false=>exact hs
    |true=>
     have:=beq_iff.1 hj;subst this;obtain ⟨b',hl',rfl⟩:=hs;rw [hl] at hl';simp only [Value.pointer.injEq,Option.some.injEq,Addr.mk.injEq] at hl';obtain ⟨rfl,_⟩:=hl';refine ⟨b,off,vs.drop off,rfl,hc.drop off,fun k u hu=> ?_⟩;rw [List.getElem?_drop] at hu;have e:ff (loc j) b:=by rw [hl];exact jj.2 rfl
     simp only [AM.iP,if_pos e];exact mX (by rw [cell_of_row w b (off+k) vs.toArray t (0,0) hh];simpa using hu) (h1 u (List.mem_of_getElem? hu))
   |undef=>exact dH hs
   |any=>exact dH hs
   |pv x=>exact dH hs
   |row j=>exact dH hs
   |rp j sz i off=>exact dH hs
   |sub j sz lo hi=>exact dH hs
   |cp c=>exact dH hs
   |cl f caps=>exact dH hs
   |ag caps=>exact dH hs
   |two s b=>exact dH hs
  ·cases h
 ·cases h
theorem A5 (hR:Rel N w0 μ0 L μ loc st a w):∀{xs:List Operand} {st st':St} {μ:Mu},Rel N w0 μ0 L μ loc st a w→mV st xs=some st'→∃μ',μ.le μ'∧Rel N w0 μ0 L μ' loc st' a w:=by
 intro xs
 induction xs with
 |nil=>intro st st' μ h hp;simp only [mV,Option.some.injEq] at hp;subst hp;exact ⟨μ,Mu.le.refl _,h⟩
 |cons x xs ih=>
  intro st st' μ h hp;cases x with
  |tmp i=>
   simp only [mV] at hp;split at hp
   ·rename_i id off hi
    cases h1:st.gQ id with
    |none=>rw [h1] at hp;cases hp
    |some st1=>
     rw [h1] at hp;obtain ⟨μ1,hle1,zd⟩:=h.gQ h1;obtain ⟨μ2,hle2,J4⟩:=ih zd hp;exact ⟨μ2,hle1.trans hle2,J4⟩
   ·exact ih h hp
  |const v=>exact ih h hp
  |func f=>exact ih h hp
  |global g=>exact ih h hp
def Wd (F:Fence):Prop:=F.plain=Fence.wide
theorem Wd.fn {F:Fence} (h:Wd F) (f:FuncId):F.fn f:=by
 have h:F.plain=Fence.wide:=h;have:F.plain.fn=Fence.wide.fn:=congrArg Fence.fn h;have:F.fn=Fence.wide.fn:=this;rw [this];trivial
theorem Wd.depth {F:Fence} (h:Wd F):F.depth=none:=by
 have h:F.plain=Fence.wide:=h;have:F.plain.depth=Fence.wide.depth:=congrArg Fence.depth h;exact this
theorem Wd.one {F:Fence} (h:Wd F) {p:Prop}:F.depth.isSome=true→p:=fun e=>by rw [h.depth] at e;cases e
theorem Wd.plain {F:Fence} (h:Wd F) (hr:F.round=none):F=Fence.wide:=by
 have:=h;unfold Wd Fence.plain at this;rw [←hr] at this;exact this
theorem Wd.wide:Wd Fence.wide:=rfl
end
end Go.AM
namespace Go
def Oper.oC (P:Program) (o:Oper) (a:Act) (w:World) (K:Act→World→Prop) (Q:Exit→Act→World→Prop):Prop:=∀F,AM.Wd F→o.wpIn F 0 P a w K Q
end Go
namespace Go.AM
open Go.RowKit
section
variable {P:Program} {N:Nat} {w0:World} {μ0:Mu} {L:ku} {μ:Mu} {loc:Nat→Value} {st st':St} {a:Act} {w:World} {Q:Exit→Act→World→Prop} {K:Act→World→Prop}
theorem JI {o:Oper} {x:Next} {w':World} (hnd:∀c,o.op≠ .defer c) (hr:(execOp a.eval o).run P w= .ok x w') (h:∀F,Wd F→o.uponIn F 0 P a K Q (.ok x w')):o.oC P a w K Q:=fun F hF=>by
 unfold Oper.wpIn;rw [Oper.semAt_eq _ _ _ hnd,hr];exact ⟨fun f _=>hF.fn f,h F hF⟩
theorem vv {o:Oper} {w':World} (hr:(execOp a.eval o).run P w= .ok .skip w') (hK:K (a.put o.dst undef) w'):o.oC P a w K Q:=
 JI (fun c hc=>by
  unfold execOp at hr;rw [hc] at hr;simp only [Sem.run_bind] at hr;cases hx:(resolve a.eval c o.type).run P w with
  |ok d w2=>rw [hx] at hr;simp at hr
  |halt e w2=>rw [hx] at hr;simp at hr) hr fun _ _=>hK
theorem dW {o:Oper} {v:Value} {w':World} (hr:(execOp a.eval o).run P w= .ok (.value v) w') (hK:K (a.put o.dst v) w'):o.oC P a w K Q:=
 JI (fun c hc=>by
  unfold execOp at hr;rw [hc] at hr;simp only [Sem.run_bind] at hr;cases hx:(resolve a.eval c o.type).run P w with
  |ok d w2=>rw [hx] at hr;simp at hr
  |halt e w2=>rw [hx] at hr;simp at hr) hr fun _ _=>hK
def iy (N:Nat) (w0:World) (μ0:Mu) (L:ku) (st':St) (K:Act→World→Prop):Prop:=∀a' w' μ' loc',Rel N w0 μ0 L μ' loc' st' a' w'→K a' w'
theorem j9 (hR:Rel N w0 μ0 L μ loc st a w) {o:Oper} {sv:SV} (hd:∀i,o.dst=some i→i<N) (hg:gZ P μ loc o sv a w) (hK:iy N w0 μ0 L (st.set o.dst sv) K):o.oC P a w K Q:=by
 obtain ⟨v,hr,hs⟩:=hg;exact dW hr (hK _ _ _ _ (hR.set hd hs))
theorem pG (hR:Rel N w0 μ0 L μ loc st a w):∀b,w.heap.size≤b→∀j,μ b j=none:=fun b hb j=>by
 cases hj:μ b j with
 |none=>rfl
 |some v=>
  have:=rD (hR.ou b j v hj);omega
theorem jD (w:World) (o:Obj):Below w.heap.size w (w.alloc o):=(Below.refl _ _).alloc (Nat.le_refl _) o
theorem Rel.made (hR:Rel N w0 μ0 L μ loc st a w) {d:Nat} (hd:d<N) {x:Obj} {val:Value} {o:Ob} {sv:SV} (hval:∀g,ff val g→g=w.heap.size)
  (cz:gB w0.heap.size L μ (lW loc d val) (w.alloc x) d o) (hs:cH μ (lW loc d val) sv val):
  Rel N w0 μ0 L μ (lW loc d val) ((st.new d o).set (some d) sv) (a.put (some d) val) (w.alloc x):=by
 have h1:=(hR.Fy (jD w x)).new (id:=d) (val:=val) (o:=o) (.inl (Nat.lt_of_lt_of_le hd hR.small)) cz (fun j oj hj hne g hg=>by
  have:=hval g hg;subst this;intro hb;have:=((hR.obs j oj hj).block _ hb).2.1
  omega)
 exact h1.set (fun i hi=>by injection hi with hi;omega) hs
theorem Rel.made' (hR:Rel N w0 μ0 L μ loc st a w) {d:Nat} (hd:d<N) {x:Obj} {val u:Value} {o:Ob} {sv:SV} (hval:∀g,ff val g→g=w.heap.size)
  (cz:gB w0.heap.size L μ (lW loc d val) (w.alloc x) d o) (hs:cH μ (lW loc d val) sv u):
  Rel N w0 μ0 L μ (lW loc d val) ((st.new d o).set (some d) sv) (a.put (some d) u) (w.alloc x):=by
 have h1:=(hR.Fy (jD w x)).new (id:=d) (val:=val) (o:=o) (.inl (Nat.lt_of_lt_of_le hd hR.small)) cz (fun j oj hj hne g hg=>by
  have:=hval g hg;subst this;intro hb;have:=((hR.obs j oj hj).block _ hb).2.1
  omega)
 exact h1.set (fun i hi=>by injection hi with hi;omega) hs
theorem um {o:Oper} {t:TypeId} {d:Nat} {v:Value} {cells:List SV} (hR:Rel N w0 μ0 L μ loc st a w) (hd:d<N) (b9:o.dst=some d)
  (hr:(execOp a.eval o).run P w= .ok (.value (.pointer (some ⟨w.heap.size,0,none⟩))) (w.alloc (.cells v.cells t)))
  (hs:dZ μ (lW loc d (.pointer (some ⟨w.heap.size,0,none⟩))) cells v.cells.toList) (h1:∀u∈v.cells.toList,u.oneCell'=true)
  (hK:iy N w0 μ0 L ((st.new d (.box t cells)).set (some d) (.ptr d 0)) K):o.oC P a w K Q:=by
 refine dW hr ?_;rw [b9];refine hK _ _ _ _ (hR.made hd (by simp [ff,aQ,eq_comm]) ?_ ?_)
 ·refine ⟨w.heap.size,v.cells.toList,bH _ _ _, .inl hR.grown,?_,pG hR _ (Nat.le_refl _),hs,h1⟩
  rw [Array.toArray_toList];exact heap_alloc_new w _
 ·exact ⟨w.heap.size,bH _ _ _,rfl⟩
theorem Ji (hR:Rel N w0 μ0 L μ loc st a w) {s:SV} {v:Value} (h:ko st s=true) (k:cH μ loc s v):v.oneCell'=true∧v.cells= #[v]:=by
 cases s with
 |undef=>simp [ko] at h
 |any=>simp [ko] at h
 |pv x=>
  cases x with
  |agg cs=>simp [ko] at h
  |e9 cs=>simp [ko] at h
  |self n=>simp only [cH,rep] at k
  |pH=>simp only [cH,rep] at k;subst k;exact ⟨rfl,rfl⟩
  |jL=>simp only [cH,rep] at k;subst k;exact ⟨rfl,rfl⟩
  |hole=>simp only [cH,rep] at k;exact k
  |bool b=>simp only [cH,rep] at k;subst k;exact ⟨rfl,rfl⟩
  |int q n=>simp only [cH,rep] at k;subst k;exact ⟨rfl,rfl⟩
  |str q=>simp only [cH,rep] at k;subst k;exact ⟨rfl,rfl⟩
  |cE sz xs=>simp only [cH,rep] at k;obtain ⟨A,c,rfl,_⟩:=k;exact ⟨rfl,rfl⟩
  |fn f caps=>simp only [cH,rep] at k;obtain ⟨vs,rfl,_⟩:=k;exact ⟨rfl,rfl⟩
  |ref cs=>simp only [cH,rep] at k;obtain ⟨b,off,vs,rfl,_⟩:=k;exact ⟨rfl,rfl⟩
  |mp ks es=>simp only [cH,rep] at k;rcases k with ⟨rfl,_⟩|⟨b,kv,ev,rfl,_⟩<;>exact ⟨rfl,rfl⟩
 |ptr id off=>obtain ⟨b,_,rfl⟩:=k;exact ⟨rfl,rfl⟩
 |row id=>
  simp only [ko] at h;split at h
  ·rename_i e sz xs cz
   have hb:=eY (hR.obs id _ cz);obtain ⟨vs,hown,_⟩:=hR.obs id _ cz;have e:v=c7 (loc id):=k;rw [hb] at e;rcases hown.2 with ⟨e1,_⟩|⟨g,cap,cur,e1,_⟩
   ·rw [e,e1];exact ⟨rfl,rfl⟩
   ·rw [e,e1];exact ⟨rfl,rfl⟩
  ·rename_i k' e' ks vs cz
   obtain ⟨b,bz,clock,hl,_⟩:=hR.obs id _ cz;have e:v=c7 (loc id):=k;rw [e,hl];exact ⟨rfl,rfl⟩
  ·cases h
 |rp id sz i off=>obtain ⟨g,n,c,_,rfl⟩:=k;exact ⟨rfl,rfl⟩
 |sub id sz lo hi=>simp [ko] at h
 |two s b=>simp [ko] at h
 |cp cs=>obtain ⟨b,off,vs,rfl,_⟩:=k;exact ⟨rfl,rfl⟩
 |cl f caps=>obtain ⟨vs,rfl,_⟩:=k;exact ⟨rfl,rfl⟩
 |ag caps=>simp [ko] at h
theorem oN {loc:Nat→Value}:∀{caps:List jl} {vs:List Value},fE μ loc caps vs→dZ μ loc (caps.map EX) vs
 |[],vs,h=>h
 |c::cs,vs,⟨u,us,e,h1,h2⟩=>by
  refine ⟨u,us,e,?_,oN h2⟩;cases c with
  |v a=>exact h1
  |p id=>exact h1
  |r id=>exact h1
theorem De (hR:Rel N w0 μ0 L μ loc st a w) {t:TypeId} {len:Nat} {parts:Array (Nat×Operand)} {e:TypeId} {s:Nat} {xs:List (List AV)} (h:jS P t len parts.toList st=some (e,s,xs)):
  ∃vs:List Value,(Instr.buildSlice t len (parts.map fun p=>(p.1,a.eval p.2))).run P w= .ok (.slice (some ⟨w.heap.size,0,none⟩) len len) (w.alloc (.cells vs.toArray e))∧bV μ s xs vs∧xs.length=len∧len≤maxLen∧0<s:=by
 unfold jS at h;split at h
 ·rename_i e' s' hs
  obtain ⟨hu,inf,jt,hsz⟩:=ec hs;split at h
  ·rename_i z ps hz hps
   split at h
   ·rename_i hc
    obtain ⟨hlen,hpos,hzl,hnt⟩:=hc;cases hf:qM (fun i=>some (i *s',s')) (lu z len) ps with
    |none=>simp [hf] at h
    |some cs=>
     simp [hf] at h;obtain ⟨rfl,rfl,rfl⟩:=h;obtain ⟨i,v,hi,hv,Rq⟩:=jg (μ:=μ) hz;rw [jt] at hi;injection hi with hi;subst hi
     obtain ⟨h1,h2⟩:=sP hR hps;have Qo:v.cells.size=s':=by have:=Rq.length;simpa [hzl] using this
     obtain ⟨ws,hw,hr⟩:=y6 (us:=parts.toList.map fun p=>(p.1,a.eval p.2)) hf (u6 Rq len) (by simpa [List.map_map,Function.comp_def] using h1) (by simpa [List.map_map,Function.comp_def] using h2) (fun p hp x e=>by
      have:=List.all_eq_true.1 hnt p hp
      rw [e] at this;cases this)
     have CY:cs.length=len *s':=by
      have key:∀(ps:List (Nat×AV)) (cells cs:List AV),qM (fun i=>some (i *s',s')) cells ps=some cs→cs.length=cells.length:=by
       intro ps
       induction ps with
       |nil=>intro cells cs h;simp [qM] at h;rw [h]
       |cons p ps ih=>
        intro cells cs h;obtain ⟨j,x⟩:=p;simp only [qM] at h;split at h
        ·rename_i c9
         rw [ih _ _ h];simp only [List.length_append,List.length_take,List.length_drop];omega
        ·cases h
      rw [key _ _ _ hf,qt,hzl]
     refine ⟨ws,?_,qv len hr CY,sG _ _ _,by simp only [maxLen];have:len *1≤len *s':=Nat.mul_le_mul_left _ hpos;omega,hpos⟩;have Vt:(List.replicate len v.cells.toList).flatten.toArray=madeCells v.cells (len *s'):=by
      rw [←pn v.cells s' Qo hpos len]
     rw [Vt] at hw;by_cases h0:len *s'=0
     ·have hle:¬(len *s'>16777216):=by omega
      have e0:madeCells v.cells (len *s')= #[]:=by rw [h0];simp [madeCells,Array.range_zero']
      rw [e0] at hw;simp [Instr.buildSlice,run_underlying hu,sizeOf,typeInfo,jt,hsz,h0,hw,newRow,Array.range_zero']
     ·have hle:¬(len *s'>16777216):=by omega
      simp only [madeCells] at hw;simp [Instr.buildSlice,run_underlying hu,sizeOf,typeInfo,jt,hsz,h0,zeroValue,hv,hw,newRow,hlen]
   ·cases h
  ·cases h
 ·cases h
theorem CP {o:Oper} {t:TypeId} {len:Nat} {parts:Array (Nat×Operand)} {d e s:Nat} {xs:List (List AV)} (hR:Rel N w0 μ0 L μ loc st a w) (hd:d<N) (b9:o.dst=some d) (ho:o.op= .buildSlice t len parts)
  (h:jS P t len parts.toList st=some (e,s,xs)) (hK:iy N w0 μ0 L ((st.new d (.row e s xs)).set (some d) (.row d)) K):o.oC P a w K Q:=by
 obtain ⟨vs,hr,hrc,hxl,hml,hpos⟩:=De (P:=P) hR h;refine dW (v:= .slice (some ⟨w.heap.size,0,none⟩) len len) (w':=w.alloc (.cells vs.toArray e)) (by unfold execOp;rw [ho];simp [hr]) ?_;rw [b9];refine hK _ _ _ _ (hR.made hd (by simp [ff,aQ,eq_comm]) ?_ (D7 rfl));refine ⟨vs,⟨by rw [cC hrc], .inr ⟨w.heap.size,len,vs.toArray,?_,Nat.zero_le _,heap_alloc_new w _,by omega,hml,?_,?_⟩⟩,hrc,fun g hg=> ?_⟩
 ·rw [bH,hxl]
 ·simp [cC hrc,hxl]
 ·rw [hxl,←hxl,←cC hrc];simp
 ·rw [bH] at hg
  simp [ff,aQ] at hg;subst hg;exact ⟨.inl hR.grown,pG hR _ (Nat.le_refl _)⟩
theorem uI {k:Nat} {c:List AV} (h:r8 k c=true):c[k]? =some .jL:=by
 unfold r8 at h;split at h
 ·assumption
 ·cases h
theorem rj {sz k:Nat}:∀{xs:List (List AV)} {vs:List Value},bV μ sz xs vs→xs.all (r8 k)=true→k<sz→bV μ sz (xs.map fun c=>c.set k .hole) vs∧∀i,i<xs.length→vs[i *sz+k]? =some (.slice none 0 0)
 |[],vs,h,_,_=>⟨h,fun i hi=>by simp at hi⟩
 |x::xs,vs,⟨us,ws,e,h1,h2,h3⟩,hall,hk=>by
  subst e;simp only [List.all_cons,Bool.and_eq_true] at hall;have hx:=uI hall.1;obtain ⟨r1,r2⟩:=rj h3 hall.2 hk;obtain ⟨v,hv,hr⟩:=kH h1.1 hx;simp only [rep] at hr;subst hr;refine ⟨⟨us,ws,rfl,⟨zX h1.1 hv (by simp [rep,Value.oneCell',Value.cells]),h1.2⟩,h2,r1⟩,fun i hi=> ?_⟩;cases i with
  |zero=>rw [Nat.zero_mul,Nat.zero_add,List.getElem?_append_left (by omega)];exact hv
  |succ i=>
   rw [List.getElem?_append_right (by rw [h2,Nat.succ_mul];omega),show (i+1) *sz+k-us.length=i *sz+k by rw [h2,Nat.succ_mul];omega];exact r2 i (by simpa using hi)
theorem AS {o:Oper} {t:TypeId} {len:Nat} {parts:Array (Nat×Operand)} {d e s k e' s':Nat} {xs:List (List AV)} (hR:Rel N w0 μ0 L μ loc st a w) (hd:d<N) (b9:o.dst=some d) (ho:o.op= .buildSlice t len parts)
  (h:jS P t len parts.toList st=some (e,s,xs)) (hk:k<s) (hall:xs.all (r8 k)=true) (hK:iy N w0 μ0 L ((st.new d (.rn e s k e' s' (xs.map fun c=>c.set k .hole) (xs.map fun _=>some []))).set (some d) (.row d)) K):o.oC P a w K Q:=by
 obtain ⟨vs,hr,hrc,hxl,hml,hpos⟩:=De (P:=P) hR h;obtain ⟨yb,HX⟩:=rj hrc hall hk;refine dW (v:= .slice (some ⟨w.heap.size,0,none⟩) len len) (w':=w.alloc (.cells vs.toArray e)) (by unfold execOp;rw [ho];simp [hr]) ?_;rw [b9];have hown:(w.alloc (.cells vs.toArray e)).ownsRow 0 e s (.slice (some ⟨w.heap.size,0,none⟩) len len) len vs:=
  ⟨by rw [cC hrc,hxl], .inr ⟨w.heap.size,len,vs.toArray,rfl,Nat.zero_le _,heap_alloc_new w _,by omega,hml,by simp [cC hrc,hxl],by rw [←hxl,←cC hrc];simp⟩⟩
 refine hK _ _ _ _ (hR.made' (val:= .tuple (.slice (some ⟨w.heap.size,0,none⟩) len len::xs.map fun _=> .slice none 0 0).toArray) hd (fun g hg=> ?_) ?_ (V7 rfl))
 ·rcases gf.1 hg with hg|⟨u,hu,hg⟩
  ·simp [aQ] at hg;exact hg.symm
  ·obtain ⟨c,_,rfl⟩:=List.mem_map.1 hu;simp [aQ] at hg
 ·refine ⟨_,_,vs,bH _ _ _,fun q hq=> ?_,by rw [List.length_map,hxl];exact hown,yb,⟨hk,fun c hc=> ?_⟩,by simp,by simp,fun i zs hi=> ?_,fun i hi=> ?_,fun u hu g hg=> ?_,fun i j u v hu hv hij g hg=> ?_⟩
  ·simp [aQ] at hq;subst hq
   exact ⟨.inl hR.grown,pG hR _ (Nat.le_refl _)⟩
  ·obtain ⟨c',sJ,rfl⟩:=List.mem_map.1 hc
   have:=uI (List.all_eq_true.1 hall c' sJ);rw [List.getElem?_set_self (List.getElem?_eq_some_iff.1 this).1]
  ·simp only [List.getElem?_map,Option.map_eq_some_iff] at hi
   obtain ⟨c,hc,e1⟩:=hi;simp only [Option.some.injEq] at e1;subst e1;exact ⟨.slice none 0 0,[],by simp [hc],HX i (List.getElem?_eq_some_iff.1 hc).1,⟨by simp, .inl ⟨rfl,rfl⟩⟩,rfl,fun g hg=>by simp [aQ] at hg⟩
  ·simp only [List.getElem?_map,Option.map_eq_some_iff] at hi
   obtain ⟨c,_,e1⟩:=hi;cases e1
  ·obtain ⟨c,_,rfl⟩:=List.mem_map.1 hu;simp [aQ] at hg
  ·simp only [List.getElem?_map,Option.map_eq_some_iff] at hu
   obtain ⟨c,_,rfl⟩:=hu;simp [aQ] at hg
theorem HP {o:Oper} {t:TypeId} {len:Nat} {parts:Array (Nat×Operand)} {e s:Nat} {xs:List (List AV)} (hR:Rel N w0 μ0 L μ loc st a w) (hd:∀i,o.dst=some i→i<N) (ho:o.op= .buildSlice t len parts)
  (h:jS P t len parts.toList st=some (e,s,xs)) (hK:iy N w0 μ0 L (st.set o.dst (.pv (.cE s xs))) K):o.oC P a w K Q:=by
 obtain ⟨vs,hr,hrc,hxl,hml,hpos⟩:=De (P:=P) hR h;refine dW (v:= .slice (some ⟨w.heap.size,0,none⟩) len len) (w':=w.alloc (.cells vs.toArray e)) (by unfold execOp;rw [ho];simp [hr]) ?_
 let μ':Mu:=fun b j=>if b=w.heap.size then vs[j]? else μ b j
 have hnone:=pG hR;have hle:μ.le μ':=fun b j v hv=>by
  by_cases hb:b=w.heap.size
  ·subst hb;rw [hnone _ (Nat.le_refl _) j] at hv;cases hv
  ·simpa [μ',hb] using hv
 have h1:=hR.grow (w':=w.alloc (.cells vs.toArray e)) (μ':=μ') ⟨hle,fun b j v hv=>by
   by_cases hb:b=w.heap.size
   ·exact .inr (by omega)
   ·exact .inl (by simpa [μ',hb] using hv)⟩ (fun b j v hv=>by
   by_cases hb:b=w.heap.size
   ·subst hb
    have H7:vs[j]? =some v:=by simpa [μ'] using hv
    exact mX (by simp [H7]) (jZ hrc v (List.mem_of_getElem? H7))
   ·have H7:μ b j=some v:=by simpa [μ',hb] using hv
    exact hR.Gb (jD w _) b j v H7) (jD w _)
 refine hK _ _ _ _ (h1.set hd ?_);show rep μ' (.cE s xs) _;rw [rep];refine ⟨_,len,by rw [hxl],by omega,hml, .inr ⟨w.heap.size,0,rfl,qu hrc hle fun j u hu=> ?_⟩⟩;simpa [μ'] using hu
theorem MW {o:Oper} {t:TypeId} {l c:Operand} {d e s:Nat} {kl kc:IntKind} {nl nc:Int} {z:List AV} {i:TypeInfo} (hR:Rel N w0 μ0 L μ loc st a w) (hd:d<N) (b9:o.dst=some d) (ho:o.op= .makeSlice t l c)
  (hs:isSlice P t=some (e,s)) (hl:(aM P 0 st l).bind dS =some (.int kl nl)) (hc:(aM P 0 st c).bind dS =some (.int kc nc)) (hz:zeroCells P e=some z) (hi:P.info? e=some i)
  (c9:0<s∧z.length=s∧0≤nl∧nl≤nc∧i.bytes *nc.toNat≤281474976710656∧nc≤9223372036854775807)
  (hK:iy N w0 μ0 L ((st.new d (.row e s (List.replicate nl.toNat z))).set (some d) (.row d)) K):o.oC P a w K Q:=by
 obtain ⟨hpos,hzl,h0,hlc,hby,h63⟩:=c9;obtain ⟨hu,inf,jt,hsz⟩:=ec hs;rw [jt] at hi;injection hi with hi;subst hi
 obtain ⟨i',v,hi',hv,Rq⟩:=jg (μ:=μ) hz;rw [jt] at hi';injection hi' with hi';subst hi'
 have Qo:v.cells.size=s:=by have:=Rq.length;simpa [hzl] using this
 have hlv:=cK hR hl;have Po:=cK hR hc;rw [rep] at hlv Po;have hby':(inf.bytes:Int) *nc≤281474976710656:=by
  have e1:((inf.bytes *nc.toNat:Nat):Int)≤281474976710656:=by omega
  rw [Int.natCast_mul,Int.toNat_of_nonneg (by omega)] at e1;exact e1
 have hr:=run_make (P:=P) w t e inf v hu jt hv kl kc nl nc h0 hlc hby' h63;refine dW (v:= .slice (some ⟨w.heap.size,0,none⟩) nl.toNat nc.toNat) (w':=w.alloc (.cells (madeCells v.cells (nc.toNat *inf.size)) e)) (by unfold execOp;rw [ho];simp [hlv,Po,hr]) ?_;rw [b9];refine hK _ _ _ _ (hR.made hd (by simp [ff,aQ,eq_comm]) ?_ (D7 rfl));have hrc:=jA (sz:=s) Rq (by simpa using Qo) nl.toNat;refine ⟨_,⟨cC hrc, .inr ⟨w.heap.size,nc.toNat,_,?_,Nat.zero_le _,heap_alloc_new w _,?_,?_,?_,?_⟩⟩,hrc,fun g hg=> ?_⟩
 ·rw [bH];simp
 ·simp;omega
 ·simp only [maxLen];omega
 ·rw [size_madeCells,hsz]
 ·rw [hsz,pn v.cells s Qo hpos]
  have:=El v.cells.toList (l:=nl.toNat) (c:=nc.toNat) (by omega);simp only [Array.length_toList,Qo] at this;simp only [List.length_replicate];exact this
 ·rw [bH] at hg
  simp [ff,aQ] at hg;subst hg;exact ⟨.inl hR.grown,pG hR _ (Nat.le_refl _)⟩
theorem PZ {o:Oper} {d e s:Nat} (hR:Rel N w0 μ0 L μ loc st a w) (hd:d<N) (b9:o.dst=some d) (ho:o.op= .assign (.const (.slice none 0 0)))
  (hK:iy N w0 μ0 L ((st.new d (.row e s [])).set (some d) (.row d)) K):o.oC P a w K Q:=by
 refine dW (v:= .slice none 0 0) (w':=w) (by unfold execOp;rw [ho];rfl) ?_;rw [b9];refine hK _ _ _ _ ((hR.new (id:=d) (val:= .slice none 0 0) (o:= .row e s []) (.inl (Nat.lt_of_lt_of_le hd hR.small)) ?_ (fun j oj hj hne g hg=>by simp [ff,aQ] at hg)).set (fun i hi=>by injection hi with hi;omega) (D7 rfl));refine ⟨[],⟨by simp, .inl ⟨bH _ _ _,rfl⟩⟩,rfl,fun g hg=> ?_⟩;rw [bH] at hg;simp [ff,aQ] at hg
theorem sU {sz:Nat} {xs:List (List AV)} {vs:List Value} (h:bV μ sz xs vs) (n:Nat):bV μ sz (xs.take n) (vs.take (n *sz)):=by
 induction n generalizing xs vs with
 |zero=>simp [bV]
 |succ n ih=>
  cases xs with
  |nil=>simp only [bV] at h;subst h;simp [bV]
  |cons x xs=>
   obtain ⟨us,ws,rfl,h1,h2,h3⟩:=h;refine ⟨us,ws.take (n *sz),?_,h1,h2,ih h3⟩;rw [show (n+1) *sz=us.length+n *sz from by rw [Nat.add_mul,h2];omega,List.take_length_add_append]
theorem A9 {sz:Nat} {xs:List (List AV)} {vs:List Value} (h:bV μ sz xs vs) (n:Nat):bV μ sz (xs.drop n) (vs.drop (n *sz)):=by
 induction n generalizing xs vs with
 |zero=>simpa using h
 |succ n ih=>
  cases xs with
  |nil=>simp only [bV] at h;subst h;simp [bV]
  |cons x xs=>
   obtain ⟨us,ws,rfl,h1,h2,h3⟩:=h;rw [show (n+1) *sz=us.length+n *sz from by rw [Nat.add_mul,h2];omega,List.drop_length_add_append];exact ih h3
theorem Ac {t e ty:TypeId} {inf:TypeInfo} {v:Value} (hu:P.underlying t=some (.slice e)) (jt:P.info? e=some inf) (hv:inf.zero=some v) {ad:Addr} {n c:Nat} (hn:0<n) {w':World} (hsc:(storeCells ad (Builtin.zeroCells v.cells n).toList).run P w= .ok () w'):
  (Builtin.clear_ #[t] ty #[.slice (some ad) n c]).run P w= .ok (.tuple #[]) w':=by
 obtain ⟨k,rfl⟩:∃k,n=k+1:=⟨n-1,by omega⟩
 simp [Builtin.clear_,run_underlying hu,zeroValue,typeInfo,jt,hv,hsc]
theorem KW {o:Oper} {c:Call} {t e e':TypeId} {s id sz sz' lo hi:Nat} {x:Operand} {xs:List (List AV)} {z:List AV} (hR:Rel N w0 μ0 L μ loc st a w) (b9:o.dst=none) (ho:o.op= .call c) (hc:c.callee= .builtin .clear) (ha:c.args.toList=[x]) (ht:c.argTypes.toList=[t])
  (hs:isSlice P t=some (e,s)) (hx:aM P t st x=some (.sub id sz lo hi)) (cz:st.ob id=some (.row e' sz' xs)) (hz:zeroCells P e=some z) (c9:s=sz∧sz=sz'∧z.length=sz∧hi≤xs.length∧e=e'∧0<sz)
  (hK:iy N w0 μ0 L { st with ob:=put st.ob id (some (.row e' sz' (xs.take lo++List.replicate (hi-lo) z++xs.drop hi))) } K):o.oC P a w K Q:=by
 obtain ⟨rfl,rfl,hzl,hhi,rfl,hpos⟩:=c9;obtain ⟨callee,⟨args⟩,⟨argTypes⟩⟩:=c;simp only at hc ha ht;subst hc;subst ha;subst ht;obtain ⟨hu,inf,jt,hsz⟩:=ec hs;obtain ⟨A,n,cp,A',c',ki,hlo,hhn,hcc,qB,_,hg⟩:=aG hR hx;obtain ⟨vs,hown,hrc,hm⟩:=hR.obs id _ cz;by_cases hlt:lo<hi
 ·obtain ⟨g,rfl,rfl⟩:=hg hlt
  obtain ⟨cap,cur,Vs,hheap,hnc,hcm,hcs,nT⟩:∃cap cur,loc id= .slice (some ⟨g,0,none⟩) xs.length cap∧w.heap[g]? =some (.cells cur e (0,0))∧xs.length≤cap∧cap≤maxLen∧cur.size=cap *s∧cur.toList.take (xs.length *s)=vs:=by
   rcases hown.2 with ⟨_,e2⟩|⟨g',cap,cur,e1,_,h2,h3,h4,h5,h6⟩
   ·omega
   ·rw [ki] at e1
    simp only [Value.slice.injEq,Option.some.injEq,Addr.mk.injEq,and_true] at e1;obtain ⟨rfl,rfl,rfl⟩:=e1;exact ⟨cp,cur,ki,h2,h3,h4,h5,h6⟩
  obtain ⟨i',v,hi',hv,Rq⟩:=jg (μ:=μ) hz;rw [jt] at hi';injection hi' with hi';subst hi'
  have Qo:v.cells.size=s:=by have:=Rq.length;simpa [hzl] using this
  have hzs:(Builtin.zeroCells v.cells (hi-lo)).toList=(List.replicate (hi-lo) v.cells.toList).flatten:=by
   rw [←pn v.cells s Qo hpos (hi-lo)];simp [Builtin.zeroCells,madeCells,Qo]
  have ND:=jA (sz:=s) Rq (by simpa using Qo) (hi-lo);have xw:((List.replicate (hi-lo) v.cells.toList).flatten).length=(hi-lo) *s:=by have:=cC ND;simpa using this
  have hvl:=cC hrc;have CY:xs.length *s≤cur.size:=by rw [hcs];exact Nat.mul_le_mul_right _ hnc
  have hmul:lo *s+(hi-lo) *s=hi *s:=by rw [←Nat.add_mul];congr 1;omega
  have hhis:hi *s≤xs.length *s:=Nat.mul_le_mul_right _ hhi;have hsc:=run_storeCells_at P g (lo *s) e (List.replicate (hi-lo) v.cells.toList).flatten 0 cur w hheap (by rw [xw];omega) (jZ ND);simp only [Nat.add_zero,xw] at hsc;have yb:=lG (lG (sU hrc lo) ND) (A9 hrc hi);have Th:(xs.take lo++List.replicate (hi-lo) z++xs.drop hi).length=xs.length:=by simp;omega
  have hrun:=Ac (P:=P) (ty:=o.type) (c:=c') (n:=hi-lo) hu jt hv (by omega) (by rw [hzs];exact hsc)
  refine dW (v:= .tuple #[]) (w':=w.setRow g (cur.toList.take (lo *s)++(List.replicate (hi-lo) v.cells.toList).flatten++cur.toList.drop (lo *s+(hi-lo) *s)).toArray) (by
   unfold execOp;rw [ho];simp only [resolve,invoke,builtin,Sem.run_bind,Sem.run_pure,Result.andThen_ok,qB,List.map_toArray,List.map_cons,List.map_nil]
   simp only [hrun,Result.andThen_ok]) ?_
  rw [b9];refine hK _ _ _ _ (hR.write cz (g:=g) (by rw [ki];exact eT.2 rfl) (fun k hk=>setRow_other w g k _ hk) rfl rfl rfl (by simp) ?_);refine ⟨_,⟨?_, .inr ⟨g,cap,_,?_,Nat.zero_le _,setRow_heap w g cur _ e _ hheap,?_,hcm,?_,?_⟩⟩,yb,fun g' hg'=>hm g' hg'⟩
  ·rw [cC yb]
  ·rw [Th];exact Vs
  ·rw [Th];exact hnc
  ·simp only [List.size_toArray,List.length_append,List.length_take,List.length_drop,Array.length_toList,xw];omega
  ·rw [Th,←nT]
   have hb:hi *s≤cur.toList.length:=by simp;omega
   have ha:lo *s≤hi *s:=Nat.mul_le_mul_right _ (by omega);rw [hmul,List.take_take,Nat.min_eq_left (by omega),List.drop_take];have hl1:(cur.toList.take (lo *s)++(List.replicate (hi-lo) v.cells.toList).flatten).length=hi *s:=by rw [List.length_append,List.length_take,xw];omega
   generalize hq:cur.toList.take (lo *s)++(List.replicate (hi-lo) v.cells.toList).flatten=q at hl1;show List.take (xs.length *s) (q++List.drop (hi *s) cur.toList)=q++_;rw [List.take_append,List.take_of_length_le (by omega),hl1]
 ·have h0:hi-lo=0:=by omega
  have e0:xs.take lo++List.replicate (hi-lo) z++xs.drop hi=xs:=by
   rw [h0,show lo=hi from by omega];simp
  rw [e0] at hK
  refine dW (v:= .tuple #[]) (w':=w) (by
   unfold execOp;rw [ho];simp [resolve,invoke,builtin,qB,h0,Builtin.clear_,run_underlying hu]
   cases A'<;>simp) ?_
  rw [b9];refine hK _ _ μ loc ?_;have:put st.ob id (some (.row e s xs))=st.ob:=by
   funext i
   by_cases e:id=i
   ·subst e;rw [bD,cz]
   ·rw [aN _ _ e]
  rw [this];exact hR
theorem K1 {o:Oper} {t:TypeId} {x y:Operand} {sa sv:SV} (hR:Rel N w0 μ0 L μ loc st a w) (b9:o.dst=none) (ho:o.op= .store t x y)
  (hx:aM P 0 st x=some sa) (hy:aM P t st y=some sv) (h:storeAt P t st sa sv=some st') (hK:iy N w0 μ0 L st' K):o.oC P a w K Q:=by
 have Pu:=aG hR hx;have yp:=aG hR hy;have fin:∀(ad:Addr) (w':World),a.eval x= .pointer (some ad)→(storeVar t ad (a.eval y)).run P w= .ok () w'→Rel N w0 μ0 L μ loc st' a w'→o.oC P a w K Q:=fun ad w' e hr qN=>by
  refine vv (w':=w') ?_ (by rw [b9];exact hK _ _ _ _ qN);unfold execOp;rw [ho];simp only [Instr.storeAt,e,Instr.sureAddr,Sem.run_bind,Sem.run_pure,Result.andThen_ok,hr]
 unfold storeAt at h;split at h
 ·rename_i id off
  obtain ⟨b,hl,Pu⟩:=Pu;split at h
  ·rename_i bt cells n cz hsz
   obtain ⟨b',vs,hl',hnF,hheap,nR,hss,h1⟩:=hR.obs id _ cz;rw [hl] at hl';simp only [Value.pointer.injEq,Option.some.injEq,Addr.mk.injEq,and_true] at hl';subst hl';have hlen:=iJ hss;have SH:∀(us:List Value) (sus:List SV),(a.eval y).cells.toList=us→us.length=n→off+n≤vs.length→(∀u∈us,u.oneCell'=true)→dZ μ loc sus us→
     st'={ st with ob:=put st.ob id (some (.box bt (cells.take off++sus++cells.drop (off+n)))) }→o.oC P a w K Q:=by
    intro us sus ua xw hle hone hsus hst;have hsc:=run_storeCells_at P b off bt us 0 vs.toArray w hheap (by simp;omega) hone;simp only [Nat.add_zero] at hsc
    refine fin ⟨b,off,none⟩ _ Pu (by
     have:(a.eval y).cells.size=n:=by rw [←xw,←ua];simp
     simp only [storeVar,Sem.run_bind,iL hsz,Result.andThen_ok,this,ne_eq,not_true_eq_false,if_false,Sem.run_pure,ua]
     exact hsc) ?_
    rw [hst];refine hR.write cz (g:=b) (by rw [hl];exact jj.2 rfl) (fun k hk=>setRow_other w b k _ hk) rfl rfl rfl (by simp) ?_;refine ⟨b,vs.take off++us++vs.drop (off+n),hl,hnF,?_,nR,?_,?_⟩
    ·have:=setRow_heap w b vs.toArray (vs.toArray.toList.take off++us++vs.toArray.toList.drop (off+us.length)).toArray bt (0,0) hheap
     simpa [xw] using this
    ·exact iI (iI (tM hss off) hsus) (tL hss (off+n))
    ·intro u hu
     simp only [List.mem_append] at hu;rcases hu with (hu|hu)|hu
     ·exact h1 u (List.mem_of_mem_take hu)
     ·exact hone u hu
     ·exact h1 u (List.mem_of_mem_drop hu)
   split at h
   ·rename_i cs
    split at h
    ·rename_i c9
     injection h with h
     obtain ⟨us,e,hall,hone⟩:=yp;have hs:=oN hall;exact SH us (cs.map EX) (by rw [e];rfl) (by rw [iJ hs,List.length_map];exact c9.1) (by omega) hone hs h.symm
    ·cases h
   ·rename_i cs
    split at h
    ·rename_i c9
     injection h with h
     have Lm:=yp;simp only [cH,rep] at Lm;obtain ⟨us,e,hall,hone⟩:=Lm;exact SH us (cs.map .pv) (by rw [e];rfl) (by rw [kU hall];exact c9.1) (by omega) hone (jY hall) h.symm
    ·cases h
   ·split at h
    ·rename_i c9
     injection h with h
     obtain ⟨ho1,hc1⟩:=Ji hR c9.2.2 yp;refine SH [a.eval y] [sv] (by rw [hc1]) (by simp [c9.1]) (by omega) (by simpa using ho1) ⟨_,[],rfl,yp,rfl⟩ ?_;rw [←h,c9.1,List.set_eq_take_append_cons_drop,if_pos c9.2.1];simp
    ·cases h
  ·cases h
 ·rename_i id sz i off
  obtain ⟨g,n',cp,hl,Pu⟩:=Pu;split at h
  ·rename_i e sz' xs n v cz hsz
   split at h
   ·rename_i c hg
    split at h
    ·rename_i c9
     obtain ⟨rfl,hvl,hle,hnt⟩:=c9;injection h with h
     rw [eY (hR.obs id _ cz)] at hl;obtain ⟨vs,hown,hrc,hm⟩:=hR.obs id _ cz;have hil:i<xs.length:=(List.getElem?_eq_some_iff.1 hg).1;obtain ⟨cap,cur,ki,hheap,hnc,hcm,hcs,nT⟩:∃cap cur,loc id= .slice (some ⟨g,0,none⟩) xs.length cap∧w.heap[g]? =some (.cells cur e (0,0))∧xs.length≤cap∧cap≤maxLen∧cur.size=cap *sz∧cur.toList.take (xs.length *sz)=vs:=by
      rcases hown.2 with ⟨_,e2⟩|⟨g',cap,cur,e1,_,h2,h3,h4,h5,h6⟩
      ·omega
      ·rw [hl] at e1
       simp only [Value.slice.injEq,Option.some.injEq,Addr.mk.injEq,and_true] at e1;obtain ⟨rfl,rfl,rfl⟩:=e1;exact ⟨cp,cur,hl,h2,h3,h4,h5,h6⟩
     have hyc:gq μ v.cells (a.eval y).cells.toList:=Cb (show rep μ v (a.eval y) from yp) (fun z e=>by rw [e] at hnt;cases hnt);have xw:(a.eval y).cells.toList.length=n:=by rw [hyc.length];exact hvl
     have key:∀(xs:List (List AV)) (vs:List Value) (i:Nat) (c:List AV),bV μ sz xs vs→xs[i]? =some c→off+n≤c.length→
       bV μ sz (xs.set i (c.take off++v.cells++c.drop (off+n))) (vs.take (i *sz+off)++(a.eval y).cells.toList++vs.drop (i *sz+off+n))∧i *sz+off+n≤vs.length:=by
      intro xs
      induction xs with
      |nil=>intro vs i c _ h;simp at h
      |cons x xs ih=>
       intro vs i c hrc hx hle;obtain ⟨us,ws,rfl,k1,k2,k3⟩:=hrc;cases i with
       |zero=>
        simp at hx;subst hx;have hxl:=k1.length;refine ⟨?_,by simp;omega⟩;refine ⟨us.take off++(a.eval y).cells.toList++us.drop (off+n),ws,?_,((k1.take off).append hyc).append (k1.drop (off+n)),?_,k3⟩
        ·simp only [Nat.zero_mul,Nat.zero_add]
         rw [List.take_append_of_le_length (by omega),List.drop_append_of_le_length (by omega)];simp [List.append_assoc]
        ·simp only [List.length_append,List.length_take,List.length_drop,xw];omega
       |succ i=>
        simp at hx;obtain ⟨r1,r2⟩:=ih ws i c k3 hx hle;refine ⟨?_,by simp [Nat.add_mul,k2];omega⟩;refine ⟨us,ws.take (i *sz+off)++(a.eval y).cells.toList++ws.drop (i *sz+off+n),?_,k1,k2,r1⟩
        rw [show (i+1) *sz+off=us.length+(i *sz+off) from by rw [Nat.add_mul,k2];omega,List.take_length_add_append,
         show us.length+(i *sz+off)+n=us.length+(i *sz+off+n) from by omega,List.drop_length_add_append]
        simp [List.append_assoc]
     obtain ⟨yb,hle'⟩:=key xs vs i c hrc hg hle;have hvl':=cC hrc;have CY:xs.length *sz≤cur.size:=by rw [hcs];exact Nat.mul_le_mul_right _ hnc
     have hsc:=run_storeCells_at P g (i *sz+off) e (a.eval y).cells.toList 0 cur w hheap (by rw [xw];omega) hyc.2;simp only [Nat.add_zero,xw] at hsc
     refine fin ⟨g,i *sz+off,none⟩ _ Pu (by
      have:(a.eval y).cells.size=n:=by simpa using xw
      simp only [storeVar,Sem.run_bind,iL hsz,Result.andThen_ok,this,ne_eq,not_true_eq_false,if_false,Sem.run_pure]
      exact hsc) ?_
     rw [←h];refine hR.write cz (g:=g) (by rw [hl];exact eT.2 rfl) (fun k hk=>setRow_other w g k _ hk) rfl rfl rfl (by simp) ?_;refine ⟨_,⟨?_, .inr ⟨g,cap,_,?_,Nat.zero_le _,setRow_heap w g cur _ e _ hheap,?_,hcm,?_,?_⟩⟩,yb,fun g' hg'=>hm g' hg'⟩
     ·rw [cC yb]
     ·simpa using ki
     ·simpa using hnc
     ·simp only [List.size_toArray,List.length_append,List.length_take,List.length_drop,Array.length_toList,xw];omega
     ·simp only [List.length_set]
      have hvl2:vs.length≤cur.toList.length:=by simp;omega
      rw [show vs.take (i *sz+off)=cur.toList.take (i *sz+off) from by rw [←nT,List.take_take,Nat.min_eq_left (by omega)],
       show vs.drop (i *sz+off+n)=(cur.toList.drop (i *sz+off+n)).take (xs.length *sz-(i *sz+off+n)) from by rw [←nT,List.drop_take]]
      rw [List.take_append,List.take_of_length_le (by simp [xw];omega)]
      congr 2
      simp only [List.length_append,List.length_take,Array.length_toList,xw];omega
    ·cases h
   ·cases h
  ·cases h
 ·cases h
theorem yf (t ty e:TypeId) (i:TypeInfo) (ht:P.underlying t=some (.slice e)) (hi:P.info? e=some i) (v:Value) (n:Nat) (xs:List Value) (size:Nat) (hown:w.ownsRow 0 e size v n xs) (c:Nat):
  (Builtin.append_ #[t,t] ty #[v, .slice none 0 c]).run P w= .ok v w:=by
 rcases hown.2 with ⟨rfl,rfl⟩|⟨g,cap,cur,rfl,_,_,hnc,_⟩
 ·simp [Builtin.append_,run_underlying ht,sizeOf,typeInfo,hi,Builtin.lenOf,Builtin.firstCells]
 ·simp [Builtin.append_,run_underlying ht,sizeOf,typeInfo,hi,Builtin.lenOf,Builtin.firstCells,hnc,storeCells]
theorem HB {o:Oper} {x y:Operand} {t e:TypeId} {d sz id:Nat} {sy:SV} {xs ys:List (List AV)} {i:TypeInfo} (hR:Rel N w0 μ0 L μ loc st a w) (hd:d<N) (b9:o.dst=some d)
  (ho:o.op= .call { callee:= .builtin .append,args:= #[x,y],argTypes:= #[t,t] }) (hs:isSlice P t=some (e,sz)) (hx:aM P t st x=some (.row id)) (hy:aM P t st y=some sy)
  (cz:st.ob id=some (.row e sz xs)) (hel:elems st sy=some (sz,ys)) (hi:P.info? e=some i) (hpos:0<sz) (hby:(xs.length+ys.length) *i.bytes≤140737488355328) (hlen:xs.length+ys.length≤4611686018427387904)
  (hz:i.zero.map (fun z=>z.cells.size)=some sz) (hid:id<10000∨20000≤id) (hK:iy N w0 μ0 L ((st.new id (.row e sz (xs++ys))).set (some d) (.row id)) K):o.oC P a w K Q:=by
 obtain ⟨hu,inf,jt,hsz⟩:=ec hs;rw [jt] at hi;injection hi with hi;subst hi
 obtain ⟨z,hz0,hzs⟩:∃z,inf.zero=some z∧z.cells.size=sz:=by
  cases hzz:inf.zero with
  |none=>simp [hzz] at hz
  |some z=>simp [hzz] at hz;exact ⟨z,rfl,hz⟩
 have qB:a.eval x=loc id:=(aG hR hx:a.eval x=c7 (loc id)).trans (eY (hR.obs id _ cz));have yp:=aG hR hy;obtain ⟨vs,hown,hrc,hm⟩:=hR.obs id _ cz;obtain ⟨A,c,Lm,us,ua,hsrc⟩:=qI hR hel yp;have xw:=cC ua;obtain ⟨v',w',hrun,Ry,hgrow,hblk⟩:∃v' w',(Builtin.append_ #[t,t] o.type #[loc id, .slice A ys.length c]).run P w= .ok v' w'∧w'.ownsRow 0 e sz v' (xs.length+ys.length) (vs++us)∧w.grownBy w' (loc id).ownBlock∧
   (v'.ownBlock=(loc id).ownBlock∨v'.ownBlock=some w.heap.size):=by
  cases A with
  |none=>
   have h0:ys.length=0:=by
    rcases hsrc with h0|⟨ad,h,_⟩
    ·exact h0
    ·cases h
   have FE:us=[]:=List.eq_nil_of_length_eq_zero (by rw [xw,h0];simp);subst FE;rw [h0];exact ⟨loc id,w,yf t o.type e inf hu jt (loc id) _ vs sz hown c,by simpa using hown,⟨rfl,rfl,rfl,Nat.le_refl _,fun _ _ _=>rfl⟩, .inl rfl⟩
  |some ad=>
   have hcells:∀j u,us[j]? =some u→w.cell? (ad.add j)=some u:=by
    rcases hsrc with h0|⟨ad',h,hc⟩
    ·have FE:us=[]:=List.eq_nil_of_length_eq_zero (by rw [xw,h0];simp)
     subst FE;intro j u hu;simp at hu
    ·injection h with h;subst h;exact hc
   obtain ⟨v',w',h1,h2,h3,_,h5⟩:=run_append_own_at (P:=P) w 0 t o.type e inf z sz inf.bytes hu jt hz0 hsz rfl hzs hpos (loc id) xs.length vs hown ad ys.length c us xw hcells (jZ ua) (by simp only [maxLen];omega) hby (Nat.zero_le _);exact ⟨v',w',h1,h2,h3,h5⟩
 have hbo:∀v:Value,(∃A n c,v= .slice A n c)→v.ownBlock=aQ v:=by
  rintro v ⟨A,n,c,rfl⟩;cases A<;>rfl
 have ki:∃A n c,loc id= .slice A n c:=by
  rcases hown.2 with ⟨e1,_⟩|⟨g,cap,cur,e1,_⟩
  ·exact ⟨_,_,_,e1⟩
  ·exact ⟨_,_,_,e1⟩
 have H7:∃A n c,v'= .slice A n c:=by
  rcases Ry.2 with ⟨e1,_⟩|⟨g,cap,cur,e1,_⟩
  ·exact ⟨_,_,_,e1⟩
  ·exact ⟨_,_,_,e1⟩
 rw [hbo _ ki] at hgrow hblk;rw [hbo _ H7] at hblk;have hok:=hR.obs id _ cz;refine dW (v:=v') (w':=w') (by unfold execOp;rw [ho];simp [resolve,invoke,builtin,qB,Lm,hrun]) ?_;rw [b9]
 have h1:=(hR.drop id).world (w':=w') (Mu.le.refl _) (fun _ _ _ h=> .inl h) (fun b j v h=>by
   have hc:=hR.ou b j v h;have hlt:=rD hc;have hne:some b≠aQ (loc id):=fun e=>by have:=(hok.block b (.inl e.symm)).2.2 j;rw [this] at h;cases h
   rw [fG (hgrow.block b hlt hne)];exact hc) (fun k ok hk b hb=>by
   by_cases e':id=k
   ·subst e';simp [bD] at hk
   ·simp only [aN _ _ e'] at hk
    obtain ⟨_,hlt,nR⟩:=(hR.obs k ok hk).block b hb;have hne:some b≠aQ (loc id):=fun e=>hR.apart id k _ ok cz hk e' b (.inl e.symm) hb
    exact ⟨hgrow.block b hlt hne,nR⟩) (fun b hb hl=>by
   refine hgrow.block b (Nat.lt_of_lt_of_le hb hR.grown) (fun e=> ?_);rcases (hok.block b (.inl e.symm)).1 with h|⟨v,hv,h⟩
   ·omega
   ·exact hl ⟨id,v,hv,h⟩) hgrow.os hgrow.tape hgrow.output hgrow.size (fun _=>LU hrun)
 have h2:=h1.new (id:=id) (val:=v') (o:= .row e sz (xs++ys)) hid (by
   refine ⟨vs++us,?_,lG hrc ua,fun g hg=> ?_⟩
   ·rw [bH,List.length_append];exact Ry
   ·rw [bH] at hg
    replace hg:aQ v'=some g:=by obtain ⟨A',n',c',rfl⟩:=H7;exact eT.1 hg
    rcases hblk with hb|hb
    ·rw [hg] at hb
     have:=hok.block g (.inl hb.symm);exact ⟨this.1,this.2.2⟩
    ·rw [hg] at hb
     injection hb with hb
     subst hb
     exact ⟨.inl hR.grown,pG hR _ (Nat.le_refl _)⟩) (fun j oj hj hne g hg=>by
   have hj':st.ob j=some oj:=by
    by_cases e':id=j
    ·exact absurd e'.symm hne
    ·simpa only [aN _ _ e'] using hj
   replace hg:aQ v'=some g:=by obtain ⟨A',n',c',rfl⟩:=H7;exact eT.1 hg
   rcases hblk with hb|hb
   ·rw [hg] at hb
    exact hR.apart id j _ oj cz hj' (fun e=>hne e.symm) g (.inl hb.symm)
   ·rw [hg] at hb
    injection hb with hb
    subst hb;intro hbj;have:=((hR.obs j oj hj').block _ hbj).2.1
    omega)
 have heq:St.new { st with ob:=put st.ob id none } id (.row e sz (xs++ys))=St.new st id (.row e sz (xs++ys)):=by
  simp only [St.new,St.cA]
  congr 1
  funext k
  by_cases e':id=k
  ·subst e';simp [bD]
  ·simp only [aN _ _ e']
 rw [heq] at h2;exact hK _ _ _ _ (h2.set (fun i hi=>by injection hi with hi;omega) (D7 (by obtain ⟨A',n',c',rfl⟩:=H7;rfl)))
theorem xD {t k e:TypeId} {r:Option Operand} (hR:Rel N w0 μ0 L μ loc st a w) (ht:P.underlying t=some (.map k e)) (hr:l8 P st r=true):(Instr.makeMap t (r.map a.eval)).run P w= .ok (.map (some w.heap.size)) (w.alloc (.map #[] 0)):=by
 have hrun:(Instr.makeMap t (r.map a.eval)).run P w= .ok (.map (some w.heap.size)) (w.alloc (.map #[] 0)):=by
  cases r with
  |none=>rfl
  |some x=>
   simp only [l8] at hr;cases hx:(aM P 0 st x).bind dS with
   |none=>simp [hx] at hr
   |some y=>
    cases y with
    |int q n=>
     have:=cK hR hx;rw [rep] at this;have e:(Instr.makeMap t (some (.int q n))).run P w=(Instr.makeMap t none).run P w:=by simp [Instr.makeMap,run_underlying ht,asInt,asIntOf]
     simp only [Option.map_some,this];rw [e];rfl
    |_=>simp [hx] at hr
 exact hrun
theorem E6 {o:Oper} {t k e:TypeId} {r:Option Operand} {d:Nat} (hR:Rel N w0 μ0 L μ loc st a w) (hd:d<N) (b9:o.dst=some d) (ho:o.op= .makeMap t r) (ht:P.underlying t=some (.map k e))
  (hr:l8 P st r=true) (hK:iy N w0 μ0 L ((st.new d (.mp k e [] [])).set (some d) (.row d)) K):o.oC P a w K Q:=by
 have hrun:=xD (P:=P) hR ht hr;refine dW (v:= .map (some w.heap.size)) (w':=w.alloc (.map #[] 0)) (by unfold execOp;rw [ho];simp [hrun]) ?_;rw [b9];refine hK _ _ _ _ (hR.made hd (val:= .map (some w.heap.size)) (fun g hg=>lM.1 hg) ?_ ?_)
 ·refine ⟨w.heap.size, #[],0,bH _ _ _, .inl hR.grown,(by show (w.heap.push _)[w.heap.size]? =_;simp),pG hR _ (Nat.le_refl _),by simp [aU],by simp [aU],⟨by simp,by simp⟩⟩
 ·exact D7 rfl
theorem Ir {key x:AV} {kv xv:Value} (h:mA key x=some true) (hk:rep μ key kv) (hx:rep μ x xv):kv=xv∧key=x:=by
 unfold mA at h;split at h
 ·rename_i s t
  simp only [Option.some.injEq,beq_iff_eq] at h;subst h;rw [rep] at hk hx;exact ⟨hk.trans hx.symm,rfl⟩
 ·rename_i q s q' t
  split at h
  ·rename_i e;subst e
   simp only [Option.some.injEq,beq_iff_eq] at h;subst h;rw [rep] at hk hx;exact ⟨hk.trans hx.symm,rfl⟩
  ·cases h
 ·rename_i s t
  simp only [Option.some.injEq,beq_iff_eq] at h;subst h;rw [rep] at hk hx;exact ⟨hk.trans hx.symm,rfl⟩
 ·cases h
theorem uF {kv:Value} {key:AV} (hk:rep μ key kv) {kt:TypeId} (hok:eP P kt key=true) (w:World):(Instr.keyThatStays kv kv).run P w= .ok kv w:=by
 have hs:∀n,Instr.sameBits n kv kv=true:=by
  intro n;unfold eP at hok;split at hok
  ·rw [rep] at hk;subst hk;cases n<;>simp [Instr.sameBits,Jw]
  ·rw [rep] at hk;subst hk;cases n<;>simp [Instr.sameBits]
  ·rw [rep] at hk;subst hk;cases n<;>simp [Instr.sameBits]
  ·cases hok
 simp only [Instr.keyThatStays,hs 10000];simp
theorem zY {xs:List AV} {vs:List Value} (h:aU μ xs vs) {i:Nat} {x:AV} {v:Value} (hx:rep μ x v):aU μ (xs.set i x) (vs.set i v):=by
 induction xs generalizing vs i with
 |nil=>rw [aU] at h;subst h;simp [aU]
 |cons y xs ih=>
  rw [aU] at h;obtain ⟨u,us,rfl,h1,h2⟩:=h;cases i with
  |zero=>simpa using bA hx h2
  |succ i=>simpa using bA h1 (ih h2)
theorem sN {t kt et:TypeId} {b:Nat} {bz:Array MapEntry} {clock:Nat} {key:AV} {kv x:Value} {ks:List AV} {r:Option Nat} (hu:P.underlying t=some (.map kt et)) (hh:w.heap[b]? =some (.map bz clock)) (hkr:rep μ key kv) (hok:eP P kt key=true)
  (h1:aU μ ks (bz.toList.map (·.key))) (hf:gl key ks=some r):
  ∃eN clock',(Instr.mapUpdate t (.map (some b)) kv x).run P w= .ok () { w with heap:=w.heap.setIfInBounds b (.map eN clock') }∧
   (r=none→aU μ (ks++[key]) (eN.toList.map (·.key))∧eN.toList.map (·.val)=bz.toList.map (·.val)++[x])∧
   (∀j,r=some j→aU μ ks (eN.toList.map (·.key))∧eN.toList.map (·.val)=(bz.toList.map (·.val)).set j x∧j<bz.size)∧(KH bz clock→KH eN clock'):=by
 have AK:=ic hkr hok h1 hf w;cases r with
 |none=>
  refine ⟨bz.push { key:=kv,val:=x,born:=clock },clock+1,?_,fun _=>⟨?_,by simp⟩,(fun j e=>by cases e),fun hB=>⟨fun y hy=> ?_,?_⟩⟩
  ·simp only [] at AK
   simp [Instr.mapUpdate,run_underlying hu,dM hh,ek hkr hok,AK,setObj,Sem.run,hh]
  ·simpa using gM h1 (bA hkr cu)
  ·rw [Array.toList_push,List.mem_append] at hy
   rcases hy with hy|hy
   ·have:=hB.1 y hy;omega
   ·rw [List.mem_singleton] at hy;subst hy;exact Nat.lt_succ_self _
  ·rw [Array.toList_push,List.map_append,List.nodup_append]
   refine ⟨hB.2,by simp,fun a ha b hb=> ?_⟩;obtain ⟨y,hy,rfl⟩:=List.mem_map.1 ha;simp only [List.map_cons,List.map_nil,List.mem_singleton] at hb;subst hb;have:=hB.1 y hy;omega
 |some j=>
  obtain ⟨e,he,hrun,y,hy,hyk⟩:=AK;obtain ⟨yv,yp,hyr⟩:=kH h1 hy;have he':bz[j]? =some e:=by simpa using he
  have Lm:yv=e.key:=by
   simp [he'] at yp;exact yp.symm
  subst Lm;obtain ⟨hsame,_⟩:=Ir hyk hkr hyr;have uz:(bz.modify j fun e=>{ e with key:=kv,val:=x }).toList.map (·.born)=bz.toList.map (·.born):=by
   apply List.ext_getElem?;intro i;simp only [List.getElem?_map,Array.getElem?_toList,Array.getElem?_modify];by_cases e1:j=i
   ·subst e1;simp [he']
   ·simp [e1]
  refine ⟨bz.modify j fun e=>{ e with key:=kv,val:=x },clock,?_,(fun e=>by cases e),(fun j' ej=> ?_),fun hB=>⟨fun y hy=> ?_,by rw [uz];exact hB.2⟩⟩
  rotate_right
  ·have hm:y.born∈bz.toList.map (·.born):=by rw [←uz];exact List.mem_map.2 ⟨y,hy,rfl⟩
   obtain ⟨z,hz,e⟩:=List.mem_map.1 hm;rw [←e];exact hB.1 z hz
  ·simp [Instr.mapUpdate,run_underlying hu,dM hh,ek hkr hok,hrun,he',←hsame,uF hkr hok,setObj,Sem.run,hh]
  ·injection ej with ej;subst ej
   refine ⟨?_,?_,(Array.getElem?_eq_some_iff.1 he').1⟩
   ·have:(bz.modify j fun e=>{ e with key:=kv,val:=x }).toList.map (·.key)=bz.toList.map (·.key):=by
     apply List.ext_getElem?;intro i;simp only [List.getElem?_map,Array.getElem?_toList,Array.getElem?_modify];by_cases e1:j=i
     ·subst e1;simp [he',hsame]
     ·simp [e1]
    rw [this];exact h1
   ·apply List.ext_getElem?
    intro i;simp only [List.getElem?_map,Array.getElem?_toList,Array.getElem?_modify,List.getElem?_set];by_cases e1:j=i
    ·subst e1;simp [he']
     exact (Array.getElem?_eq_some_iff.1 he').1
    ·simp [e1]
theorem uo {o:Oper} {t:TypeId} {m k x:Operand} (hR:Rel N w0 μ0 L μ loc st a w) (b9:o.dst=none) (ho:o.op= .mapUpdate t m k x∨o.op= .insert t m k x) (h:nZ P st t m k x=some st')
  (hK:iy N w0 μ0 L st' K):o.oC P a w K Q:=by
 unfold nZ at h;split at h
 ·rename_i kt et hu
  split at h
  ·rename_i st1 NG
   obtain ⟨μ1,zd⟩:∃μ1,Rel N w0 μ0 L μ1 loc st1 a w:=by
    unfold IS at NG;split at NG
    ·injection NG with e;subst e;exact ⟨μ,hR⟩
    ·obtain ⟨μ',_,h'⟩:=hR.bZ NG;exact ⟨μ',h'⟩
    ·cases NG
   split at h
   ·rename_i id key v hm hk hx
    split at h
    ·rename_i k' e' ks vs cz
     cases hc:(eP P kt key&&v.zL) with
     |false=>simp [hc] at h
     |true=>
      simp only [hc,cond_true] at h;simp only [Bool.and_eq_true] at hc;split at h
      ·rename_i ks' vs' hput
       injection h with h
       subst h;obtain ⟨b,bz,clock,hl,hown,hh,nR,h1,h2,hB⟩:=zd.obs id _ cz;have tY:a.eval m= .map (some b):=by
        have:=aG zd hm;simp only [cH] at this;rw [this,hl];rfl
       have hkr:=cK zd hk;have hxr:=cK zd hx;have Tp:∃eN clock',(Instr.mapUpdate t (a.eval m) (a.eval k) (a.eval x)).run P w= .ok () { w with heap:=w.heap.setIfInBounds b (.map eN clock') }∧aU μ1 ks' (eN.toList.map (·.key))∧aU μ1 vs' (eN.toList.map (·.val))∧KH eN clock':=by
        unfold pE at hput;cases hf:gl key ks with
        |none=>simp [hf] at hput
        |some r=>
         obtain ⟨eN,clock',hrun,q1,q2,q3⟩:=sN (x:=a.eval x) hu hh hkr hc.1 h1 hf;refine ⟨eN,clock',by rw [tY];exact hrun,?_⟩;cases r with
         |none=>
          simp only [hf,Option.some.injEq,Prod.mk.injEq] at hput;obtain ⟨rfl,rfl⟩:=hput;obtain ⟨k1,k2⟩:=q1 rfl;exact ⟨k1,by rw [k2];exact gM h2 (bA hxr cu),q3 hB⟩
         |some j=>
          simp only [hf,Option.some.injEq,Prod.mk.injEq] at hput;obtain ⟨rfl,rfl⟩:=hput;obtain ⟨k1,k2,_⟩:=q2 j rfl;exact ⟨k1,by rw [k2];exact zY h2 hxr,q3 hB⟩
       obtain ⟨eN,clock',hrun,r1,r2,r3⟩:=Tp;have hlt:=(Array.getElem?_eq_some_iff.1 hh).1
       have H8:=zd.write cz (g:=b) (by rw [hl];exact lM.2 rfl) (w':={ w with heap:=w.heap.setIfInBounds b (.map eN clock') }) (o':= .mp k' e' ks' vs') (fun b' hb'=>by
         simp only [];rw [Array.getElem?_setIfInBounds_ne (fun e=>hb' e.symm)]) rfl rfl rfl (by simp) ⟨b,eN,clock',hl,hown,by simp [hlt],nR,r1,r2,r3⟩
       have:((execOp a.eval o).run P w)= .ok .skip { w with heap:=w.heap.setIfInBounds b (.map eN clock') }:=by
        unfold execOp;rcases ho with ho|ho<;>rw [ho]<;>simp [hrun]
       exact vv this (by rw [b9];exact hK _ _ _ _ H8)
      ·cases h
    ·cases h
   ·cases h
  ·cases h
 ·cases h
theorem u5 {xs:List AV} {vs:List Value} (h:aU μ xs vs) (i:Nat):aU μ (xs.eraseIdx i) (vs.eraseIdx i):=by
 induction xs generalizing vs i with
 |nil=>rw [aU] at h;subst h;simp [aU]
 |cons x xs ih=>
  rw [aU] at h;obtain ⟨u,us,rfl,h1,h2⟩:=h;cases i with
  |zero=>simpa using h2
  |succ i=>simpa using bA h1 (ih h2 i)
theorem vP {α β:Type} (f:α→β) (l:List α) (j:Nat):(l.eraseIdx j).map f=(l.map f).eraseIdx j:=by
 induction l generalizing j with
 |nil=>rfl
 |cons x l ih=>
  cases j with
  |zero=>rfl
  |succ j=>simp [ih]
theorem HC {o:Oper} {c:Call} {t:TypeId} {ts:List TypeId} {m k:Operand} (hR:Rel N w0 μ0 L μ loc st a w) (b9:o.dst=none) (ho:o.op= .call c) (hc:c.callee= .builtin .delete) (ha:c.args.toList=[m,k]) (ht:c.argTypes.toList=t::ts) (h:nY P st t m k=some st')
  (hK:iy N w0 μ0 L st' K):o.oC P a w K Q:=by
 obtain ⟨callee,⟨args⟩,⟨argTypes⟩⟩:=c;simp only at hc ha ht;subst hc;subst ha;subst ht;unfold nY at h;split at h
 ·rename_i kt et hu
  split at h
  ·rename_i id key hm hk
   split at h
   ·rename_i k' e' ks vs cz
    cases hok:eP P kt key with
    |false=>simp [hok] at h
    |true=>
     simp only [hok,cond_true] at h;split at h
     ·rename_i ks' vs' Ld
      injection h with h
      subst h;obtain ⟨b,bz,clock,hl,hown,hh,nR,h1,h2,hB⟩:=hR.obs id _ cz;have tY:a.eval m= .map (some b):=by
       have:=aG hR hm;simp only [cH] at this;rw [this,hl];rfl
      have hkr:=cK hR hk;have Tp:∃eN,(Builtin.delete_ (t::ts).toArray o.type #[a.eval m,a.eval k]).run P w= .ok (.tuple #[]) { w with heap:=w.heap.setIfInBounds b (.map eN clock) }∧aU μ ks' (eN.toList.map (·.key))∧aU μ vs' (eN.toList.map (·.val))∧KH eN clock:=by
       unfold I1 at Ld;cases hf:gl key ks with
       |none=>simp [hf] at Ld
       |some r=>
        have AK:=ic hkr hok h1 hf w;cases r with
        |none=>
         simp only [hf,Option.some.injEq,Prod.mk.injEq] at Ld;obtain ⟨rfl,rfl⟩:=Ld;simp only [] at AK;exact ⟨bz,by simp [Builtin.delete_,tY,run_underlying hu,dM hh,ek hkr hok,AK,setObj,Sem.run,hh],h1,h2,hB⟩
        |some j=>
         simp only [hf,Option.some.injEq,Prod.mk.injEq] at Ld;obtain ⟨rfl,rfl⟩:=Ld;obtain ⟨e,he,hrun,_⟩:=AK;refine ⟨bz.eraseIdxIfInBounds j,by simp [Builtin.delete_,tY,run_underlying hu,dM hh,ek hkr hok,hrun,setObj,Sem.run,hh],?_,?_,⟨fun y hy=>hB.1 y (by rw [Array.toList_eraseIdxIfInBounds] at hy;exact (List.eraseIdx_sublist _ _).subset hy),by rw [Array.toList_eraseIdxIfInBounds];exact hB.2.sublist ((List.eraseIdx_sublist _ _).map _)⟩⟩
         ·have:=u5 h1 j
          rw [←vP] at this;rw [Array.toList_eraseIdxIfInBounds];exact this
         ·have:=u5 h2 j
          rw [←vP] at this;rw [Array.toList_eraseIdxIfInBounds];exact this
      obtain ⟨eN,hrun,r1,r2,r3⟩:=Tp;have hlt:=(Array.getElem?_eq_some_iff.1 hh).1
      have H8:=hR.write cz (g:=b) (by rw [hl];exact lM.2 rfl) (w':={ w with heap:=w.heap.setIfInBounds b (.map eN clock) }) (o':= .mp k' e' ks' vs') (fun b' hb'=>by
        simp only [];rw [Array.getElem?_setIfInBounds_ne (fun e=>hb' e.symm)]) rfl rfl rfl (by simp) ⟨b,eN,clock,hl,hown,by simp [hlt],nR,r1,r2,r3⟩
      refine dW (v:= .tuple #[]) (w':={ w with heap:=w.heap.setIfInBounds b (.map eN clock) }) (by
       unfold execOp;rw [ho];simp only [List.map_toArray,List.map_cons,List.map_nil,resolve,invoke,builtin];have VC:(Builtin.delete_ { toList:=t::ts } o.type #[a.eval m,a.eval k]).run P w=_:=hrun
       simp [VC]) ?_
      rw [b9];exact hK _ _ _ _ H8
     ·cases h
   ·cases h
  ·cases h
 ·cases h
theorem pW {id:Nat} {val:Value} {us:Array Value} (tq:loc id= .tuple us) (hbase:c7 val=c7 (loc id)):∀{cs:List jl} {vs:List Value},fE μ loc cs vs→fE μ (lW loc id val) cs vs
 |[],vs,h=>h
 |c::cs,vs,⟨u,us',e,h1,h2⟩=>by
  refine ⟨u,us',e,?_,pW tq hbase h2⟩;cases c with
  |v a=>exact h1
  |p j=>
   obtain ⟨b,k1,k2⟩:=h1;have hne:j≠id:=fun e=>by subst e;rw [tq] at k1;cases k1
   exact ⟨b,by rw [bM _ _ hne];exact k1,k2⟩
  |r j=>
   show u=c7 (lW loc id val j);by_cases e:j=id
   ·subst e;rw [bH,hbase];exact h1
   ·rw [bM _ _ e];exact h1
theorem B9 {id:Nat} {val:Value} {us:Array Value} (tq:loc id= .tuple us) (hbase:c7 val=c7 (loc id)) {s:SV} {v:Value} (k:cH μ loc s v):cH μ (lW loc id val) s v:=by
 induction s generalizing v with
 |undef=>exact k
 |any=>exact k
 |pv y=>exact k
 |cp cs=>exact k
 |ptr j off=>
  obtain ⟨b,h1,h2⟩:=k;have hne:j≠id:=fun e=>by subst e;rw [tq] at h1;cases h1
  exact ⟨b,by rw [bM _ _ hne];exact h1,h2⟩
 |row j=>
  show v=c7 (lW loc id val j);by_cases e:j=id
  ·subst e;rw [bH,hbase];exact k
  ·rw [bM _ _ e];exact k
 |rp j sz i off=>
  obtain ⟨g,n,c,h1,h2⟩:=k;refine ⟨g,n,c,?_,h2⟩;by_cases e:j=id
  ·subst e;rw [bH,hbase];exact h1
  ·rw [bM _ _ e];exact h1
 |sub j sz lo hi=>
  obtain ⟨A,n,c,A',c',h1,h2⟩:=k;have hne:j≠id:=fun e=>by subst e;rw [tq] at h1;cases h1
  exact ⟨A,n,c,A',c',by rw [bM _ _ hne];exact h1,h2⟩
 |cl f caps=>obtain ⟨vs,e,hc⟩:=k;exact ⟨vs,e,pW tq hbase hc⟩
 |ag caps=>obtain ⟨vs,e,hc,h1⟩:=k;exact ⟨vs,e,pW tq hbase hc,h1⟩
 |two s b ih=>obtain ⟨y,e,k⟩:=k;exact ⟨y,e,ih k⟩
theorem z6 {id:Nat} {val:Value} {us:Array Value} (tq:loc id= .tuple us) (hbase:c7 val=c7 (loc id)):∀{cs:List SV} {vs:List Value},dZ μ loc cs vs→dZ μ (lW loc id val) cs vs
 |[],vs,h=>h
 |c::cs,vs,⟨u,us',e,h1,h2⟩=>⟨u,us',e,B9 tq hbase h1,z6 tq hbase h2⟩
theorem LG {n0:Nat} {i id:Nat} {val:Value} {us:Array Value} (tq:loc id= .tuple us) (hbase:c7 val=c7 (loc id)) {o:Ob} (h:gB n0 L μ loc w i o) (hne:i≠id):gB n0 L μ (lW loc id val) w i o:=by
 cases o with
 |box t cells=>
  obtain ⟨b,vs,hl,ho,hh,hm,hs,h1⟩:=h;exact ⟨b,vs,by rw [bM _ _ hne];exact hl,ho,hh,hm,z6 tq hbase hs,h1⟩
 |row e sz xs=>
  obtain ⟨vs,hown,hrc,hm⟩:=h;refine ⟨vs,by rw [bM _ _ hne];exact hown,hrc,fun g hg=>hm g (by rw [bM _ _ hne] at hg;exact hg)⟩
 |mp k e ks es=>
  obtain ⟨b,bz,clock,hl,rest⟩:=h;exact ⟨b,bz,clock,by rw [bM _ _ hne];exact hl,rest⟩
 |mr k e sz ks vs=>
  obtain ⟨b,bz,clock,us,hl,rest⟩:=h;exact ⟨b,bz,clock,us,by rw [bM _ _ hne];exact hl,rest⟩
 |it s pos=>
  obtain ⟨b,hl,rest⟩:=h;exact ⟨b,by rw [bM _ _ hne];exact hl,rest⟩
 |rn e sz k e' sz' xs ys=>
  obtain ⟨m,us,vs,hl,rest⟩:=h;exact ⟨m,us,vs,by rw [bM _ _ hne];exact hl,rest⟩
theorem Rel.Kz (hR:Rel N w0 μ0 L μ loc st a w) {id:Nat} {o o':Ob} {val:Value} {us:Array Value} (ho:st.ob id=some o) (tq:loc id= .tuple us) (hbase:c7 val=c7 (loc id)) (hsmall:id<10000) {g:Nat} (hg:ff (loc id) g) {w':World}
  (hch:∀b,b≠g→w'.heap[b]? =w.heap[b]?) (hos:w'.os=w.os) (zh:w'.tape=w.tape) (hout:w'.output=w.output) (hsz:w'.heap.size=w.heap.size)
  (cz:gB w0.heap.size L μ (lW loc id val) w' id o') (hap:∀j oj,st.ob j=some oj→j≠id→∀q,ff val q→¬ff (loc j) q) (Lg:L.q→w.drawn≤w'.drawn:=by exact fun _=>Nat.le_refl _):Rel N w0 μ0 L μ (lW loc id val) { st with ob:=put st.ob id (some o') } a w':=by
 obtain ⟨hown,hlt,nR⟩:=(hR.obs id o ho).block g hg
 have h1:=(hR.drop id).world (w':=w') (Mu.le.refl _) (fun _ _ _ h=> .inl h) (fun b j v h=>by
   have hne:b≠g:=fun e=>by subst e;rw [nR j] at h;cases h
   have:=hR.ou b j v h
   rw [fG (hch b hne)];exact this) (fun i oi hi b hb=>by
   by_cases e:id=i
   ·subst e;simp [bD] at hi
   ·simp only [aN _ _ e] at hi
    have hne:b≠g:=fun e'=>by subst e';exact hR.apart id i o oi ho hi e b hg hb
    exact ⟨hch b hne,((hR.obs i oi hi).block b hb).2.2⟩) (fun b hb hl=>by
   refine hch b (fun e=> ?_);subst e;rcases hown with h|⟨v,hv,h⟩
   ·omega
   ·exact hl ⟨id,v,hv,h⟩) hos zh hout (by omega) Lg
 refine ⟨h1.small,h1.names,?_,h1.size,h1.defers,?_,h1.ou,h1.base,?_,?_,h1.keep,h1.os,h1.tape,h1.output,h1.grown,h1.drawn⟩
 ·intro i v hv hi
  have hne:i≠id:=fun e=>by subst e;rw [hR.names i hsmall] at hv;cases hv
  rw [bM _ _ hne];exact hR.fix i v hv hi
 ·intro i s hi
  obtain ⟨v,hv,hr⟩:=h1.env i s hi;exact ⟨v,hv,B9 tq hbase hr⟩
 ·intro i oi hi
  by_cases e:id=i
  ·subst e;simp only [bD,Option.some.injEq] at hi;subst hi;exact cz
  ·simp only [aN _ _ e] at hi
   exact LG tq hbase (h1.obs i oi (by simpa only [aN _ _ e] using hi)) (Ne.symm e)
 ·intro i j oi oj hi hj hij q hq
  by_cases ei:id=i
  ·subst ei
   simp only [aN _ _ hij] at hj;rw [bH] at hq;rw [bM _ _ (Ne.symm hij)];exact hap j oj hj (Ne.symm hij) q hq
  ·simp only [aN _ _ ei] at hi
   rw [bM _ _ (Ne.symm ei)] at hq;by_cases ej:id=j
   ·subst ej
    rw [bH];exact fun HY=>hap i oi hi hij q HY hq
   ·simp only [aN _ _ ej] at hj
    rw [bM _ _ (Ne.symm ej)];exact hR.apart i j oi oj hi hj hij q hq
theorem Rel.Ky (hR:Rel N w0 μ0 L μ loc st a w) (id:Nat):Rel N w0 μ0 L μ loc (st.cA id) a w:=by
 have hu:lW loc id (loc id)=loc:=funext fun i=>by
  by_cases e:i=id
  ·subst e;exact bH _ _ _
  ·exact bM _ _ e
 have hsub:∀i oi,(st.cA id).ob i=some oi→i≠id∧∃oj,st.ob i=some oj∧oi=oj.cA id:=fun i oi h=>by
  by_cases e:id=i
  ·subst e;simp [St.cA,bD] at h
  ·simp only [St.cA,aN _ _ e,Option.map_eq_some_iff] at h
   obtain ⟨oj,h1,h2⟩:=h;exact ⟨Ne.symm e,oj,h1,h2.symm⟩
 refine ⟨hR.small,hR.names,hR.fix,hR.size,hR.defers,?_,hR.ou,hR.base,?_,?_,hR.keep,hR.os,hR.tape,hR.output,hR.grown,hR.drawn⟩
 ·intro i s hi
  simp only [St.cA,Option.map_eq_some_iff] at hi;obtain ⟨s',h1,rfl⟩:=hi;obtain ⟨v,hv,hr⟩:=hR.env i s' h1;exact ⟨v,hv,dH hr⟩
 ·intro i oi hi
  obtain ⟨hne,oj,h1,rfl⟩:=hsub i oi hi;have:=tI (x:=loc id) (hR.obs i oj h1) hne
  rwa [hu] at this
 ·intro i j oi oj hi hj hij
  obtain ⟨_,Mf,h1,_⟩:=hsub i oi hi;obtain ⟨_,Jh,h2,_⟩:=hsub j oj hj;exact hR.apart i j Mf Jh h1 h2 hij
theorem qU {t:TypeId} {m k:Operand} {et:TypeId} {id:Nat} {key:AV} {k' e:TypeId} {sz:Nat} {ks:List AV} {vs:List (Option (List (List AV)))} (h:BN P st t m k=some (et,id,key,k',e,sz,ks,vs)):
  ∃kt,P.underlying t=some (.map kt et)∧aM P t st m=some (.row id)∧(aM P kt st k).bind dS =some key∧st.ob id=some (.mr k' e sz ks vs)∧eP P kt key=true∧id<10000:=by
 unfold BN at h;split at h
 ·rename_i kt et' hu
  split at h
  ·rename_i id' key' hm hk
   split at h
   ·rename_i k2 e2 Um ks2 vs2 cz
    cases hb:(eP P kt key'&&Nat.blt id' 10000) with
    |false=>rw [hb] at h;cases h
    |true=>
     simp only [hb,cond_true,Option.some.injEq,Prod.mk.injEq] at h;obtain ⟨rfl,rfl,rfl,rfl,rfl,rfl,rfl,rfl⟩:=h;rw [Bool.and_eq_true] at hb;exact ⟨kt,hu,hm,hk,cz,hb.1,by simpa [Nat.blt_eq] using hb.2⟩
   ·cases h
  ·cases h
 ·cases h
theorem G5 {t:TypeId} {s:Nat} (h:iN P t=some (.cE s [])) (w:World):(zeroValue t).run P w= .ok (.slice none 0 0) w:=by
 unfold iN at h;split at h
 ·rename_i i hi
  split at h
  ·cases hz:fT P (lK P 8 t) _<;>rw [hz] at h<;>cases h
  ·rename_i v hne hz
   unfold ofConst at h;split at h
   ·cases h
   ·cases h
   ·cases h
   ·simp [zeroValue,typeInfo,hi,hz]
   ·cases h
   ·split at h<;>cases h
   ·cases h
  ·cases h
 ·cases h
theorem Be {o:Oper} {t:TypeId} {x:Operand} {d:Nat} (hR:Rel N w0 μ0 L μ loc st a w) (hd:d<N) (b9:o.dst=some d) (ho:o.op= .load t x) (h:lV P st t x d=some st') (hK:iy N w0 μ0 L st' K):o.oC P a w K Q:=by
 unfold lV at h;split at h
 ·rename_i id sz i off hx hagg
  split at h
  ·rename_i e sz' k e' s' xs ys cz
   split at h
   ·rename_i zs VG
    cases hb:(Nat.beq sz sz'&&Nat.beq off k&& !(Nat.beq id d)&&Nat.blt id 10000) with
    |false=>rw [hb] at h;cases h
    |true=>
    rw [hb] at h;simp only [cond_true,Option.some.injEq] at h;subst h;simp only [Bool.and_eq_true,Bool.not_eq_true'] at hb;obtain ⟨⟨⟨b1,b2⟩,b3⟩,b4⟩:=hb;have e1:=beq_iff.1 b1;have e2:=beq_iff.1 b2;subst e1 e2;have hne:id≠d:=fun e=>by subst e;rw [Nat.beq_refl] at b3;cases b3
    have hid:id<10000:=Nat.blt_eq.mp b4;have hd':d<10000:=Nat.lt_of_lt_of_le hd hR.small;obtain ⟨g,n,c,hbase,Pu⟩:=aG hR hx;obtain ⟨m,us,vs,hl,hm,hown,hrc,hk,h2,h3,h4,h5,h6,h7⟩:=hR.obs id _ cz;obtain ⟨u,cells,k1,k2,k3,k4,k5⟩:=h4 i zs VG;have tY:m= .slice (some ⟨g,0,none⟩) n c:=by
     rw [hl] at hbase;exact hbase
    have hcell:=hown.cells (g:=g) (by rw [tY];rfl) _ _ k2;rw [add_lit,Nat.zero_add] at hcell
    refine dW (v:=u) (w':=w) (by
     unfold execOp;rw [ho]
     simp [Pu,Instr.loadAt,Instr.sureAddr,loadVar,mc hagg,hcell]) ?_
    rw [b9];have hil:i<us.length:=(List.getElem?_eq_some_iff.1 k1).1;have hLid:∀{q},yd w0.heap.size L id q→w0.heap.size≤q:=fun {q} hq=>by
     rcases hq with hq|⟨v,hv,_⟩
     ·exact hq
     ·rw [hR.names id hid] at hv;cases hv
    have r1:=hR.Kz (id:=id) (o':= .rn e sz off e' s' xs (ys.set i none)) (val:= .tuple (m::us.set i undef).toArray) (g:=g) (w':=w) cz hl (by rw [hl];rfl) hid (by rw [hl];exact gf.2 (.inl (by rw [tY];rfl))) (fun _ _=>rfl) rfl rfl rfl rfl (by
      have Wg:∀(q:Nat) (z:Value),(us.set i undef)[q]? =some z→∀g,aQ z=some g→us[q]? =some z:=fun q z hz g hg=>by
       by_cases hqi:q=i
       ·rw [hqi,List.getElem?_set_self hil] at hz
        injection hz with hz
        subst hz;simp [undef,aQ] at hg
       ·rwa [List.getElem?_set_ne (Ne.symm hqi)] at hz
      refine ⟨m,us.set i undef,vs,bH _ _ _,hm,hown,hrc,hk,by simp [h2],by simp [h3],fun q zs' hq=> ?_,fun q hq=> ?_,fun z hz g hg=> ?_,fun q q' x y hx hy RB g hg hg'=>h7 q q' x y (Wg q x hx g hg) (Wg q' y hy g hg') RB g hg hg'⟩
      ·have hqi:q≠i:=fun e=>by subst e;simp [List.getElem?_set] at hq
       rw [List.getElem?_set_ne (Ne.symm hqi)] at hq;obtain ⟨u',cells',m1,m2⟩:=h4 q zs' hq;exact ⟨u',cells',by rw [List.getElem?_set_ne (Ne.symm hqi)];exact m1,m2⟩
      ·by_cases hqi:q=i
       ·subst hqi;simp [List.getElem?_set,hil]
       ·rw [List.getElem?_set_ne (Ne.symm hqi)] at hq
        rw [List.getElem?_set_ne (Ne.symm hqi)];exact h5 q hq
      ·rcases List.mem_or_eq_of_mem_set hz with hz|rfl
       ·exact h6 z hz g hg
       ·simp [undef,aQ] at hg) (fun j oj hj hji q hq=>by
      refine fun BH=>hR.apart id j _ oj cz hj (Ne.symm hji) q ?_ BH
      rw [hl];rcases gf.1 hq with hq|⟨z,hz,Er⟩
      ·exact gf.2 (.inl hq)
      ·rcases List.mem_or_eq_of_mem_set hz with hz|rfl
       ·exact gf.2 (.inr ⟨z,hz,Er⟩)
       ·simp [undef,aQ] at Er)
    have Ud:c7 u=u:=by rcases k3.2 with ⟨e1,_⟩|⟨g,cap,cur,e1,_⟩<;>rw [e1]<;>rfl
    have hin:∀g,ff u g→aQ u=some g:=fun g hg=>by
     rcases k3.2 with ⟨e1,_⟩|⟨g',cap,cur,e1,_⟩<;>rw [e1] at hg⊢<;>exact eT.1 hg
    have r2:=r1.new (id:=d) (val:=u) (o:= .row e' s' zs) (.inl hd') (by
      refine ⟨cells,by rw [bH];exact k3,k4,fun g hg=> ?_⟩;rw [bH] at hg;obtain ⟨m1,m2⟩:=k5 g (hin g hg)
      exact ⟨.inl (hLid m1),m2⟩) (fun j oj hj hjd g hg=>by
      have zf:=hin g hg;by_cases hji:id=j
      ·subst hji
       rw [bH];intro hb;rcases gf.1 hb with hq|⟨z,hz,Er⟩
       ·exact h6 u (List.mem_of_getElem? k1) g zf hq
       ·obtain ⟨q,hq,eq⟩:=List.mem_iff_getElem.1 hz
        have HY:(us.set i undef)[q]? =some z:=by rw [List.getElem?_eq_getElem hq,eq]
        by_cases hqi:q=i
        ·subst hqi
         simp [List.getElem?_set,hil] at HY;subst HY;simp [undef,aQ] at Er
        ·rw [List.getElem?_set_ne (Ne.symm hqi)] at HY
         exact h7 q i z u HY k1 hqi g Er zf
      ·simp only [aN _ _ hji] at hj
       rw [bM _ _ (Ne.symm hji)]
       exact hR.apart id j _ oj cz hj hji g (by rw [hl];exact gf.2 (.inr ⟨u,List.mem_of_getElem? k1,zf⟩)))
    exact hK _ _ _ _ (r2.set (fun i hi=>by injection hi with hi;omega) (D7 Ud))
   ·cases h
  ·cases h
 ·cases h
theorem Gs {α:Type}:∀{l:List α} {k:Nat} {a:α},l[k]? =some a→l.set k a=l
 |[],_,_,h=>by simp at h
 |x::l,0,a,h=>by simp at h;subst h;rfl
 |x::l,k+1,a,h=>by simp at h;simp [Gs h]
theorem sR {sz k:Nat} {u:Value} (hk:k<sz) (hu:rep μ .hole u):∀{xs:List (List AV)} {vs:List Value} {i:Nat},bV μ sz xs vs→i<xs.length→(∀c∈xs,c[k]? =some AV.hole)→
  bV μ sz xs (vs.set (i *sz+k) u)∧i *sz+k<vs.length
 |[],_,_,_,h,_=>by simp at h
 |x::xs,vs,i,⟨us,ws,e,h1,h2,h3⟩,hi,hall=>by
  subst e;have hx:=hall x (by simp);have hh:=hu;rw [rep] at hh;cases i with
  |zero=>
   rw [Nat.zero_mul,Nat.zero_add,List.set_append_left _ _ (by omega)];refine ⟨⟨us.set k u,ws,rfl,⟨?_,fun z hz=> ?_⟩,by simp [h2],h3⟩,by simp;omega⟩
   ·have:=zY h1.1 (i:=k) hu
    rwa [Gs hx] at this
   ·rcases List.mem_or_eq_of_mem_set hz with hz|rfl
    ·exact h1.2 z hz
    ·exact hh.1
  |succ i=>
   obtain ⟨r1,r2⟩:=sR hk hu h3 (i:=i) (by simpa using hi) fun c hc=>hall c (by simp [hc])
   have e1:(i+1) *sz+k-us.length=i *sz+k:=by rw [h2,Nat.succ_mul];omega
   rw [List.set_append_right _ _ (by rw [h2,Nat.succ_mul];omega),e1];exact ⟨⟨us,_,rfl,h1,h2,r1⟩,by simp only [List.length_append,h2,Nat.succ_mul];omega⟩
theorem F9 {e:TypeId} {sz:Nat} {m u:Value} {n p:Nat} {vs:List Value} (h:w.ownsRow 0 e sz m n vs) (hp:p<vs.length) (hu:u.oneCell'=true):
  ∃g cap w',m= .slice (some ⟨g,0,none⟩) n cap∧(storeCells ⟨g,p,none⟩ [u] 0).run P w= .ok () w'∧w'.ownsRow 0 e sz m n (vs.set p u)∧(∀b,b≠g→w'.heap[b]? =w.heap[b]?)∧w'.os=w.os∧w'.tape=w.tape∧w'.output=w.output∧w'.heap.size=w.heap.size∧w'.drawn=w.drawn:=by
 rcases h.2 with ⟨_,e2⟩|⟨g,cap,cur,e1,_,h2,h3,h4,h5,h6⟩
 ·have:=h.1;rw [e2] at this;simp at this;rw [this] at hp;simp at hp
 ·have hpc:p<cur.size:=by
   have e2:=congrArg List.length h6;simp only [List.length_take,Array.length_toList] at e2;omega
  refine ⟨g,cap,_,e1,run_storeCells_at P g p e [u] 0 cur w h2 (by simp;omega) (by simpa using hu),⟨by simp [h.1], .inr ⟨g,cap,_,e1,Nat.zero_le _,setRow_heap w g cur _ e _ h2,h3,h4,?_,?_⟩⟩,fun b hb=>setRow_other w g b _ hb,rfl,rfl,rfl,by simp,rfl⟩
  ·simp;omega
  ·have e3:cur.toList.take (p+0)++[u]++cur.toList.drop (p+0+[u].length)=cur.toList.set p u:=by
    rw [List.set_eq_take_append_cons_drop,if_pos (by simpa using hpc)];simp
   rw [e3,List.take_set,h6]
theorem Gd {o:Oper} {t:TypeId} {x y:Operand} {id sz i off j:Nat} (hR:Rel N w0 μ0 L μ loc st a w) (b9:o.dst=none) (ho:o.op= .store t x y) (hx:aM P 0 st x=some (.rp id sz i off)) (hy:aM P t st y=some (.row j))
  (h:xK P st t id sz i off j=some st') (hK:iy N w0 μ0 L st' K):o.oC P a w K Q:=by
 unfold xK at h;split at h
 ·rename_i e sz' k e' s' xs ys e2 s2 zs hagg hsz cz uB
  cases hb:(Nat.beq sz sz'&&Nat.beq off k&&Nat.blt id 10000&&Nat.blt j 10000&&Nat.beq e' e2&&Nat.beq s' s2&&Nat.blt i ys.length&& !(Nat.beq id j)) with
  |false=>rw [hb] at h;cases h
  |true=>
  rw [hb] at h;simp only [cond_true,Option.some.injEq] at h;subst h;simp only [Bool.and_eq_true,Bool.not_eq_true'] at hb;obtain ⟨⟨⟨⟨⟨⟨⟨b1,b2⟩,b3⟩,b4⟩,b5⟩,b6⟩,b7⟩,b8⟩:=hb;have c1:=beq_iff.1 b1;have c2:=beq_iff.1 b2;have c5:=beq_iff.1 b5;have c6:=beq_iff.1 b6;subst c1 c2 c5 c6;have hne:id≠j:=fun e=>by subst e;rw [Nat.beq_refl] at b8;cases b8
  have hid:id<10000:=Nat.blt_eq.mp b3;have hj:j<10000:=Nat.blt_eq.mp b4;have hil:i<ys.length:=Nat.blt_eq.mp b7;obtain ⟨g,n,c,hbase,Pu⟩:=aG hR hx;have yp:a.eval y=loc j:=(aG hR hy:a.eval y=c7 (loc j)).trans (eY (hR.obs j _ uB));obtain ⟨cells,hrow,Qm,hgj⟩:=hR.obs j _ uB;obtain ⟨m,us,vs,hl,hm,hown,hrc,hk,h2,h3,h4,h5,h6,h7⟩:=hR.obs id _ cz;have tY:m= .slice (some ⟨g,0,none⟩) n c:=by
   rw [hl] at hbase;exact hbase
  have Rt:rep μ .hole (loc j):=by
   rcases hrow.2 with ⟨e1,_⟩|⟨g',cap,cur,e1,_⟩<;>rw [e1]<;>simp [rep,Value.oneCell',Value.cells]
  have hone:(loc j).oneCell'=true∧(loc j).cells= #[loc j]:=by simpa [rep] using Rt
  obtain ⟨yb,hp⟩:=sR hk.1 Rt hrc (i:=i) (by omega) hk.2;obtain ⟨g',cap,w',e1,hrun,J9,hch,hos,zh,hout,hsize,Lg⟩:=F9 (P:=P) hown hp hone.1;have eg:g=g':=by rw [tY] at e1;simp at e1;exact e1.1
  subst eg;have hin:∀q,ff (loc j) q→aQ (loc j)=some q:=fun q hq=>by
   rcases hrow.2 with ⟨e1,_⟩|⟨g',cap,cur,e1,_⟩<;>rw [e1] at hq⊢<;>exact eT.1 hq
  have hfree:∀q,aQ (loc j)=some q→¬ff (loc id) q:=fun q hq=>hR.apart j id _ _ uB cz (Ne.symm hne) q (.inl hq)
  have hbm:∀q,aQ (loc j)=some q→aQ m≠some q:=fun q hq e=>hfree q hq (by rw [hl];exact gf.2 (.inl e))
  have hbu:∀u∈us,∀q,aQ u=some q→aQ (loc j)≠some q:=fun u hu q hq e=>hfree q e (by rw [hl];exact gf.2 (.inr ⟨u,hu,hq⟩))
  have hmg:aQ m=some g:=by rw [tY];rfl
  refine vv (w':=w') (by
   unfold execOp;rw [ho];have h1:(a.eval y).cells.size=1:=by rw [yp,hone.2];rfl
   have h2:(a.eval y).cells.toList=[loc j]:=by rw [yp,hone.2]
   simp only [Instr.storeAt,Pu,Instr.sureAddr,Sem.run_bind,Sem.run_pure,Result.andThen_ok,storeVar,iL hsz,h1,h2,ne_eq,not_true_eq_false,if_false,hrun]) ?_
  rw [b9];have hob1:(st.cA j).ob id=some (.rn e sz off e' s' xs ys):=by simp [St.cA,aN _ _ (Ne.symm hne),cz,Ob.cA]
  have iu:i<us.length:=by omega
  refine hK _ _ _ _ ((hR.Ky j).Kz (id:=id) (o':= .rn e sz off e' s' xs (ys.set i (some zs))) (val:= .tuple (m::us.set i (loc j)).toArray) (g:=g) (w':=w') hob1 hl (by rw [hl];rfl) hid (by rw [hl];exact gf.2 (.inl hmg)) hch hos zh hout hsize ?_ (fun q oj hq hqi z hz Er=> ?_) (fun _=>by rw [Lg];exact Nat.le_refl _))
  ·have split:∀q z,(us.set i (loc j))[q]? =some z→us[q]? =some z∧q≠i∨q=i∧z=loc j:=fun q z hz=>by
    by_cases hq:q=i
    ·subst hq
     rw [List.getElem?_set_self iu] at hz;injection hz with hz
     exact .inr ⟨rfl,hz.symm⟩
    ·rw [List.getElem?_set_ne (Ne.symm hq)] at hz;exact .inl ⟨hz,hq⟩
   refine ⟨m,us.set i (loc j),vs.set (i *sz+off) (loc j),bH _ _ _,hm,J9,yb,hk,by simp [h2],by simp [h3],fun q zs' hq=> ?_,fun q hq=> ?_,fun z hz q hq=> ?_,fun q q' z z' hz RE RB b hb hb'=> ?_⟩
   ·by_cases hqi:q=i
    ·subst hqi
     rw [List.getElem?_set_self hil] at hq;simp only [Option.some.injEq] at hq;subst hq;refine ⟨loc j,cells,by rw [List.getElem?_set_self iu],by rw [List.getElem?_set_self hp],gC hrow (fun b hb=>hch b fun e=>by subst e;exact hbm b hb hmg),Qm,fun b hb=> ?_⟩;obtain ⟨m1,m2⟩:=hgj b (.inl hb);rcases m1 with m1|⟨v,hv,_⟩
     ·exact ⟨.inl m1,m2⟩
     ·rw [hR.names j hj] at hv;cases hv
    ·rw [List.getElem?_set_ne (Ne.symm hqi)] at hq
     obtain ⟨u',cells',m1,m2,m3,m4,m5⟩:=h4 q zs' hq;have hpq:i *sz+off≠q *sz+off:=fun e=>hqi (Nat.eq_of_mul_eq_mul_right (Nat.lt_of_le_of_lt (Nat.zero_le _) hk.1) (by omega:q *sz=i *sz))
     exact ⟨u',cells',by rw [List.getElem?_set_ne (Ne.symm hqi)];exact m1,by rw [List.getElem?_set_ne hpq];exact m2,gC m3 (fun b hb=>hch b fun e=>by subst e;exact h6 u' (List.mem_of_getElem? m1) b hb hmg),m4,m5⟩
   ·have hqi:q≠i:=fun e=>by subst e;rw [List.getElem?_set_self hil] at hq;simp at hq
    rw [List.getElem?_set_ne (Ne.symm hqi)] at hq;rw [List.getElem?_set_ne (Ne.symm hqi)];exact h5 q hq
   ·rcases List.mem_or_eq_of_mem_set hz with hz|rfl
    ·exact h6 z hz q hq
    ·exact hbm q hq
   ·rcases split q z hz with ⟨Ll,_⟩|⟨e1,e2⟩<;>rcases split q' z' RE with ⟨Pr,_⟩|⟨e3,e4⟩
    ·exact h7 q q' z z' Ll Pr RB b hb hb'
    ·rw [e4] at hb';exact hbu z (List.mem_of_getElem? Ll) b hb hb'
    ·rw [e2] at hb;exact hbu z' (List.mem_of_getElem? Pr) b hb' hb
    ·exact RB (e1.trans e3.symm)
  ·have BH:q≠j:=fun e=>by subst e;simp [St.cA,bD] at hq
   simp only [St.cA,aN _ _ (Ne.symm BH),Option.map_eq_some_iff] at hq;obtain ⟨Jh,HY,_⟩:=hq;rcases gf.1 hz with hz|⟨u,hu,hz⟩
   ·exact hR.apart id q _ Jh cz HY (Ne.symm hqi) z (by rw [hl];exact gf.2 (.inl hz)) Er
   ·rcases List.mem_or_eq_of_mem_set hu with hu|rfl
    ·exact hR.apart id q _ Jh cz HY (Ne.symm hqi) z (by rw [hl];exact gf.2 (.inr ⟨u,hu,hz⟩)) Er
    ·exact hR.apart j q _ Jh uB HY (Ne.symm BH) z (.inl hz) Er
 ·cases h
theorem KX {o:Oper} {t:TypeId} {m k:Operand} {d:Nat} (hR:Rel N w0 μ0 L μ loc st a w) (hd:d<N) (b9:o.dst=some d) (ho:o.op= .lookup t m k false) (h:BO P st t m k d=some st') (hK:iy N w0 μ0 L st' K):o.oC P a w K Q:=by
 unfold BO at h;split at h
 ·rename_i et id key k' e sz ks vs hmk
  obtain ⟨kt,hu,hm,hk,cz,hok,hid⟩:=qU hmk;cases vw:Nat.beq id d with
  |true=>rw [vw] at h;cases h
  |false=>
  simp only [vw,cond_false] at h;have hne:id≠d:=fun e=>by subst e;simp [Nat.beq_refl] at vw
  obtain ⟨b,bz,clock,us,hl,hown,hh,nR,h1,h2,h3,h4,h5,h6⟩:=hR.obs id _ cz;have tY:a.eval m= .map (some b):=by
   have:a.eval m=c7 (loc id):=aG hR hm;rw [this,hl];rfl
  have hkr:=cK hR hk;have hd':d<10000:=Nat.lt_of_lt_of_le hd hR.small;split at h
  ·rename_i i hf
   have AK:=ic hkr hok h1 hf w;obtain ⟨ent,he,hrun,_⟩:=AK;split at h
   ·rename_i xs VG
    injection h with h;subst h
    obtain ⟨u,cells,k1,k2,k3,k4,k5⟩:=h4 i xs VG;have hval:u=ent.val:=by
     have he':bz[i]? =some ent:=by simpa using he
     simp [he'] at k2;exact k2.symm
    refine dW (v:=ent.val) (w':=w) (by
     unfold execOp;rw [ho]
     simp [tY,Instr.lookup,run_underlying hu,dM hh,ek hkr hok,hrun]) ?_
    rw [b9,←hval];have hil:i<us.length:=(List.getElem?_eq_some_iff.1 k1).1
    have r1:=hR.Kz (id:=id) (o':= .mr k' e sz ks (vs.set i none)) (val:= .tuple (.map (some b)::us.set i undef).toArray) (g:=b) (w':=w) cz hl (by rw [hl];rfl) hid (by rw [hl];exact ig.2 (.inl rfl)) (fun _ _=>rfl) rfl rfl rfl rfl (by
      refine ⟨b,bz,clock,us.set i undef,bH _ _ _,hown,hh,nR,h1,by simp [h2],by simp [h3],fun q ys hq=> ?_,fun q hq=> ?_,fun q q' x y hx hy RB g hg=> ?_⟩
      ·have hqi:q≠i:=fun e=>by subst e;simp [List.getElem?_set] at hq
       rw [List.getElem?_set_ne (Ne.symm hqi)] at hq;obtain ⟨u',cells',m1,m2⟩:=h4 q ys hq;exact ⟨u',cells',by rw [List.getElem?_set_ne (Ne.symm hqi)];exact m1,m2⟩
      ·by_cases hqi:q=i
       ·subst hqi;simp [List.getElem?_set,hil]
       ·rw [List.getElem?_set_ne (Ne.symm hqi)] at hq
        rw [List.getElem?_set_ne (Ne.symm hqi)];exact h5 q hq
      ·have Wg:∀(q:Nat) (z:Value),(us.set i undef)[q]? =some z→∀g,aQ z=some g→us[q]? =some z:=fun q z hz g hg=>by
        by_cases hqi:q=i
        ·rw [hqi,List.getElem?_set_self hil] at hz
         injection hz with hz
         subst hz;simp [undef,aQ] at hg
        ·rwa [List.getElem?_set_ne (Ne.symm hqi)] at hz
       intro hg'
       exact h6 q q' x y (Wg q x hx g hg) (Wg q' y hy g hg') RB g hg hg') (fun j oj hj hji q hq=>by
      refine fun BH=>hR.apart id j _ oj cz hj (Ne.symm hji) q ?_ BH
      rw [hl];rcases ig.1 hq with rfl|⟨z,hz,Er⟩
      ·exact ig.2 (.inl rfl)
      ·rcases List.mem_or_eq_of_mem_set hz with hz|rfl
       ·exact ig.2 (.inr ⟨z,hz,Er⟩)
       ·simp [undef,aQ] at Er)
    have Ud:c7 u=u:=by rcases k3.2 with ⟨e1,_⟩|⟨g,cap,cur,e1,_⟩<;>rw [e1]<;>rfl
    have hin:∀g,ff u g→aQ u=some g:=fun g hg=>by
     rcases k3.2 with ⟨e1,_⟩|⟨g',cap,cur,e1,_⟩<;>rw [e1] at hg⊢<;>exact eT.1 hg
    have r2:=r1.new (id:=d) (val:=u) (o:= .row e sz xs) (.inl hd') (by
      refine ⟨cells,by rw [bH];exact k3,k4,fun g hg=> ?_⟩;rw [bH] at hg;obtain ⟨m1,m2⟩:=k5 g (hin g hg)
      exact ⟨.inl m1,m2⟩) (fun j oj hj hjd g hg=>by
      have zf:=hin g hg;by_cases hji:id=j
      ·subst hji
       rw [bH];intro hb;rcases ig.1 hb with rfl|⟨z,hz,Er⟩
       ·
        rcases k3.2 with ⟨e1,_⟩|⟨g',cap,cur,e1,_,hg',_⟩
        ·rw [e1] at zf;simp [aQ] at zf
        ·rw [e1] at zf;simp [aQ] at zf;subst zf;rw [hh] at hg';cases hg'
       ·obtain ⟨q,hq,eq⟩:=List.mem_iff_getElem.1 hz
        have HY:(us.set i undef)[q]? =some z:=by rw [List.getElem?_eq_getElem hq,eq]
        by_cases hqi:q=i
        ·subst hqi
         simp [List.getElem?_set,hil] at HY;subst HY;simp [undef,aQ] at Er
        ·rw [List.getElem?_set_ne (Ne.symm hqi)] at HY
         exact h6 q i z u HY k1 hqi g Er zf
      ·simp only [aN _ _ hji] at hj
       rw [bM _ _ (Ne.symm hji)]
       exact hR.apart id j _ oj cz hj hji g (by rw [hl];exact ig.2 (.inr ⟨u,List.mem_of_getElem? k1,zf⟩)))
    exact hK _ _ _ _ (r2.set (fun i hi=>by injection hi with hi;omega) (D7 Ud))
   ·cases h
  ·rename_i hf
   split at h
   ·rename_i s0 e' s hz hs
    split at h
    ·rename_i c9
     obtain ⟨rfl,rfl,hpos⟩:=c9;injection h with h;subst h
     have AK:=ic hkr hok h1 hf w;have Tj:=G5 hz w
     refine dW (v:= .slice none 0 0) (w':=w) (by
      unfold execOp;rw [ho]
      simp [tY,Instr.lookup,run_underlying hu,dM hh,ek hkr hok,AK,Tj]) ?_
     rw [b9];refine hK _ _ _ _ ((hR.new (id:=d) (val:= .slice none 0 0) (o:= .row e s []) (.inl hd') ?_ (fun j oj hj hne g hg=>by simp [ff,aQ] at hg)).set (fun i hi=>by injection hi with hi;omega) (D7 rfl));refine ⟨[],⟨by simp, .inl ⟨bH _ _ _,rfl⟩⟩,rfl,fun g hg=> ?_⟩;rw [bH] at hg;simp [ff,aQ] at hg
    ·cases h
   ·cases h
  ·cases h
 ·cases h
theorem JY {o:Oper} {t kt et:TypeId} {m k x:Operand} {id:Nat} {key:AV} {k' e:TypeId} {sz:Nat} {ks ks':List AV} {vs vs':List (Option (List (List AV)))} {xs:List (List AV)} {cells:List Value}
  (hR:Rel N w0 μ0 L μ loc st a w) (b9:o.dst=none) (ho:o.op= .mapUpdate t m k x∨o.op= .insert t m k x) (hu:P.underlying t=some (.map kt et)) (tY:a.eval m=c7 (loc id)) (hkr:rep μ key (a.eval k)) (hok:eP P kt key=true)
  (cz:st.ob id=some (.mr k' e sz ks vs)) (hid:id<10000) (hput:pE key (some xs) ks vs=some (ks',vs')) (hrow:w.ownsRow 0 e sz (a.eval x) xs.length cells) (hrc:bV μ sz xs cells)
  (hg:∀g,aQ (a.eval x)=some g→w0.heap.size≤g∧∀j,μ g j=none) (hfree:∀j oj,st.ob j=some oj→∀g,aQ (a.eval x)=some g→¬ff (loc j) g)
  (hK:iy N w0 μ0 L { st with ob:=put st.ob id (some (.mr k' e sz ks' vs')) } K):o.oC P a w K Q:=by
 obtain ⟨b,bz,clock,us,hl,hown,hh,nR,h1,h2,h3,h4,h5,h6⟩:=hR.obs id _ cz;have hmv':a.eval m= .map (some b):=by rw [tY,hl];rfl
 cases hf:gl key ks with
 |none=>simp [pE,hf] at hput
 |some r=>
 obtain ⟨eN,clock',hrun,q1,q2,_⟩:=sN (x:=a.eval x) hu hh hkr hok h1 hf;have hlt:=(Array.getElem?_eq_some_iff.1 hh).1;have Ud:∀g,ff (a.eval x) g→aQ (a.eval x)=some g:=fun g hg=>by
  rcases hrow.2 with ⟨e1,_⟩|⟨g',cap,cur,e1,_⟩<;>rw [e1] at hg⊢<;>exact eT.1 hg
 have J6:aQ (a.eval x)≠some b:=fun e=>by
  rcases hrow.2 with ⟨e1,_⟩|⟨g',cap,cur,e1,_,hg',_⟩
  ·rw [e1] at e;simp [aQ] at e
  ·rw [e1] at e;simp [aQ] at e;subst e;rw [hh] at hg';cases hg'
 have Ub:∀u∈us,∀g,aQ u=some g→aQ (a.eval x)≠some g:=fun u hu g zf Vo=>hfree id _ cz g Vo (by rw [hl];exact ig.2 (.inr ⟨u,hu,zf⟩))
 have other:∀(u:Value) (cs:List Value) (ys:List (List AV)),w.ownsRow 0 e sz u ys.length cs→aQ u≠some b→World.ownsRow { w with heap:=w.heap.setIfInBounds b (.map eN clock') } 0 e sz u ys.length cs:=fun u cs ys hu hub=>
  gC hu (fun g hg=>by
   have:b≠g:=fun e=>hub (by rw [e];exact hg)
   simp only [];rw [Array.getElem?_setIfInBounds_ne this])
 have hub:∀u∈us,aQ u≠some b:=fun u hu e=>by
  obtain ⟨i,ys,m1,m2⟩:=I9 h2 h5 hu e;obtain ⟨u',cells',n1,n2,n3,_⟩:=h4 i ys m1;rw [m2] at n1;injection n1 with n1;subst n1
  rcases n3.2 with ⟨e1,_⟩|⟨g',cap,cur,e1,_,hg',_⟩
  ·rw [e1] at e;simp [aQ] at e
  ·rw [e1] at e;simp [aQ] at e;subst e;rw [hh] at hg';cases hg'
 have fin:∀us',(∀u∈us',u∈us∨u=a.eval x)→gB w0.heap.size L μ (lW loc id (.tuple (.map (some b)::us').toArray)) { w with heap:=w.heap.setIfInBounds b (.map eN clock') } id (.mr k' e sz ks' vs')→o.oC P a w K Q:=fun us' ua nS=>by
  have r1:=hR.Kz (id:=id) (val:= .tuple (.map (some b)::us').toArray) (g:=b) (w':={ w with heap:=w.heap.setIfInBounds b (.map eN clock') }) cz hl (by rw [hl];rfl) hid (by rw [hl];exact ig.2 (.inl rfl))
   (fun b' hb'=>by simp only [];rw [Array.getElem?_setIfInBounds_ne (fun e=>hb' e.symm)]) rfl rfl rfl (by simp) nS (fun j oj hj hji q hq=>by
    rcases ig.1 hq with rfl|⟨z,hz,Er⟩
    ·exact fun BH=>hR.apart id j _ oj cz hj (Ne.symm hji) q (by rw [hl];exact ig.2 (.inl rfl)) BH
    ·rcases ua z hz with hz|rfl
     ·exact fun BH=>hR.apart id j _ oj cz hj (Ne.symm hji) q (by rw [hl];exact ig.2 (.inr ⟨z,hz,Er⟩)) BH
     ·exact hfree j oj hj q Er)
  have:((execOp a.eval o).run P w)= .ok .skip { w with heap:=w.heap.setIfInBounds b (.map eN clock') }:=by
   unfold execOp;rcases ho with ho|ho<;>rw [ho]<;>simp [hmv',hrun]
  exact vv this (by rw [b9];exact hK _ _ _ _ r1)
 cases r with
 |none=>
  simp only [pE,hf,Option.some.injEq,Prod.mk.injEq] at hput;obtain ⟨rfl,rfl⟩:=hput;obtain ⟨c1,c2⟩:=q1 rfl;have hsize:eN.size=bz.size+1:=by have:=congrArg List.length c2;simpa using this
  refine fin (us++[a.eval x]) (fun u hu=>by simpa using hu) ⟨b,eN,clock',us++[a.eval x],bH _ _ _,hown,by simp [hlt],nR,c1,by simp [h2],by simp [hsize,h3],fun i ys hi=> ?_,fun i hi=> ?_,fun i j u v hu hv hij g zf Qi=> ?_⟩
  ·by_cases hil:i<vs.length
   ·rw [List.getElem?_append_left hil] at hi
    obtain ⟨u,cs,n1,n2,n3,n4,n5⟩:=h4 i ys hi;exact ⟨u,cs,by rw [List.getElem?_append_left (by omega)];exact n1,by rw [c2,List.getElem?_append_left (by simp;omega)];exact n2,other u cs ys n3 (hub u (List.mem_of_getElem? n1)),n4,n5⟩
   ·rw [List.getElem?_append_right (by omega)] at hi
    have Vp:i-vs.length=0:=by
     have:=(List.getElem?_eq_some_iff.1 hi).1;simp at this;omega
    rw [Vp] at hi;simp at hi;subst hi;refine ⟨a.eval x,cells,?_,?_,other _ _ _ hrow J6,hrc,hg⟩
    ·rw [List.getElem?_append_right (by omega),h2,Vp];rfl
    ·rw [c2,List.getElem?_append_right (by simp;omega)];simp [h3,Vp]
  ·by_cases hil:i<vs.length
   ·rw [List.getElem?_append_left hil] at hi
    rw [List.getElem?_append_left (by omega)];exact h5 i hi
   ·rw [List.getElem?_append_right (by omega)] at hi
    have Vp:i-vs.length=0:=by
     have:=(List.getElem?_eq_some_iff.1 hi).1;simp at this;omega
    rw [Vp] at hi;simp at hi
  ·have split:∀q z,(us++[a.eval x])[q]? =some z→(us[q]? =some z)∨(q=us.length∧z=a.eval x):=fun q z hz=>by
    by_cases hq:q<us.length
    ·rw [List.getElem?_append_left hq] at hz;exact .inl hz
    ·rw [List.getElem?_append_right (by omega)] at hz
     have h0:q-us.length=0:=by
      have:=(List.getElem?_eq_some_iff.1 hz).1;simp at this;omega
     rw [h0] at hz;simp at hz;exact .inr ⟨by omega,hz.symm⟩
   rcases split i u hu with Ll|⟨e1,e2⟩<;>rcases split j v hv with Pr|⟨e3,e4⟩
   ·exact h6 i j u v Ll Pr hij g zf Qi
   ·rw [e4] at Qi;exact Ub u (List.mem_of_getElem? Ll) g zf Qi
   ·rw [e2] at zf;exact Ub v (List.mem_of_getElem? Pr) g Qi zf
   ·exact hij (e1.trans e3.symm)
 |some p=>
  simp only [pE,hf,Option.some.injEq,Prod.mk.injEq] at hput;obtain ⟨rfl,rfl⟩:=hput;obtain ⟨c1,c2,vG⟩:=q2 p rfl;have hsize:eN.size=bz.size:=by have:=congrArg List.length c2;simpa using this
  have hpu:p<us.length:=by omega
  refine fin (us.set p (a.eval x)) (fun u hu=>List.mem_or_eq_of_mem_set hu) ⟨b,eN,clock',us.set p (a.eval x),bH _ _ _,hown,by simp [hlt],nR,c1,by simp [h2],by simp [hsize,h3],fun i ys hi=> ?_,fun i hi=> ?_,fun i j u v hu hv hij g zf Qi=> ?_⟩
  ·by_cases Ru:i=p
   ·subst Ru
    rw [List.getElem?_set] at hi;simp [show i<vs.length by omega] at hi;subst hi;refine ⟨a.eval x,cells,by simp [List.getElem?_set,hpu],by rw [c2];simp [List.getElem?_set,vG],other _ _ _ hrow J6,hrc,hg⟩
   ·rw [List.getElem?_set_ne (Ne.symm Ru)] at hi
    obtain ⟨u,cs,n1,n2,n3,n4,n5⟩:=h4 i ys hi;exact ⟨u,cs,by rw [List.getElem?_set_ne (Ne.symm Ru)];exact n1,by rw [c2,List.getElem?_set_ne (Ne.symm Ru)];exact n2,other u cs ys n3 (hub u (List.mem_of_getElem? n1)),n4,n5⟩
  ·by_cases Ru:i=p
   ·subst Ru
    rw [List.getElem?_set] at hi;simp at hi
   ·rw [List.getElem?_set_ne (Ne.symm Ru)] at hi
    rw [List.getElem?_set_ne (Ne.symm Ru)];exact h5 i hi
  ·have split:∀q z,(us.set p (a.eval x))[q]? =some z→(us[q]? =some z)∨(q=p∧z=a.eval x):=fun q z hz=>by
    by_cases hq:q=p
    ·subst hq
     simp [List.getElem?_set,hpu] at hz;exact .inr ⟨rfl,hz.symm⟩
    ·rw [List.getElem?_set_ne (Ne.symm hq)] at hz;exact .inl hz
   rcases split i u hu with Ll|⟨e1,e2⟩<;>rcases split j v hv with Pr|⟨e3,e4⟩
   ·exact h6 i j u v Ll Pr hij g zf Qi
   ·rw [e4] at Qi;exact Ub u (List.mem_of_getElem? Ll) g zf Qi
   ·rw [e2] at zf;exact Ub v (List.mem_of_getElem? Pr) g Qi zf
   ·exact hij (e1.trans e3.symm)
theorem E7 {o:Oper} {t:TypeId} {m k x:Operand} (hR:Rel N w0 μ0 L μ loc st a w) (b9:o.dst=none) (ho:o.op= .mapUpdate t m k x∨o.op= .insert t m k x) (h:I7 P st t m k x=some st') (hK:iy N w0 μ0 L st' K):o.oC P a w K Q:=by
 unfold I7 at h;split at h
 ·rename_i et id key k' e sz ks vs hmk
  obtain ⟨kt,hu,hm,hk,cz,hok,hid⟩:=qU hmk;have tY:a.eval m=c7 (loc id):=aG hR hm;have hkr:=cK hR hk;split at h
  ·split at h
   ·rename_i e' s hs
    split at h
    ·rename_i c9
     split at h
     ·rename_i ks' vs' hput
      injection h with h;subst h
      have hx:a.eval (.const (.slice none 0 0))= .slice none 0 0:=rfl;exact JY (cells:=[]) hR b9 ho hu tY hkr hok cz hid hput (by rw [hx];exact ⟨by simp, .inl ⟨rfl,rfl⟩⟩) rfl (fun g hg=>by rw [hx] at hg;simp [aQ] at hg) (fun j oj _ g hg=>by rw [hx] at hg;simp [aQ] at hg) hK
     ·cases h
    ·cases h
   ·cases h
  ·split at h
   ·rename_i j hx
    split at h
    ·rename_i e' s xs uB
     split at h
     ·rename_i c9
      obtain ⟨rfl,rfl,hj⟩:=c9;split at h
      ·rename_i ks' vs' hput
       injection h with h;subst h
       have hne:id≠j:=fun e=>by subst e;rw [cz] at uB;cases uB
       have qB:a.eval x=loc j:=(aG hR hx:a.eval x=c7 (loc j)).trans (eY (hR.obs j _ uB));obtain ⟨cells,hrow,hrc,hgj⟩:=hR.obs j _ uB;have hob2:(st.cA j).ob id=some (.mr k' e s ks vs):=by simp [St.cA,aN _ _ (Ne.symm hne),cz,Ob.cA]
       refine JY (cells:=cells) (hR.Ky j) b9 ho hu tY hkr hok hob2 hid hput (by rw [qB];exact hrow) hrc (fun g hg=> ?_) (fun i oi hi g hg=> ?_) hK
       ·rw [qB] at hg
        obtain ⟨m1,m2⟩:=hgj g (.inl hg);rcases m1 with m1|⟨v,hv,_⟩
        ·exact ⟨m1,m2⟩
        ·rw [hR.names j hj] at hv;cases hv
       ·rw [qB] at hg
        by_cases e:j=i
        ·subst e;simp [St.cA,bD] at hi
        ·simp only [St.cA,aN _ _ e,Option.map_eq_some_iff] at hi
         obtain ⟨Mf,hi',_⟩:=hi;exact hR.apart j i _ Mf uB hi' e g (.inl hg)
      ·cases h
     ·cases h
    ·cases h
   ·cases h
 ·cases h
theorem HD {o:Oper} {t k e e':TypeId} {s:Nat} {r:Option Operand} {d:Nat} (hR:Rel N w0 μ0 L μ loc st a w) (hd:d<N) (b9:o.dst=some d) (ho:o.op= .makeMap t r) (ht:P.underlying t=some (.map k e))
  (hr:l8 P st r=true) (hK:iy N w0 μ0 L ((st.new d (.mr k e' s [] [])).set (some d) (.row d)) K):o.oC P a w K Q:=by
 have hrun:=xD (P:=P) hR ht hr;refine dW (v:= .map (some w.heap.size)) (w':=w.alloc (.map #[] 0)) (by unfold execOp;rw [ho];simp [hrun]) ?_;rw [b9];have h1:=(hR.Fy (jD w (.map #[] 0))).new (id:=d) (val:= .tuple (.map (some w.heap.size)::[]).toArray) (o:= .mr k e' s [] []) (.inl (Nat.lt_of_lt_of_le hd hR.small))
  ⟨w.heap.size, #[],0,[],bH _ _ _,hR.grown,(by show (w.heap.push _)[w.heap.size]? =_;simp),pG hR _ (Nat.le_refl _),by simp [aU],rfl,rfl,by simp,by simp,by simp⟩ (fun j oj hj hne g hg=>by
  rcases ig.1 hg with rfl|⟨u,hu,_⟩
  ·intro hb
   have:=((hR.obs j oj hj).block _ hb).2.1;omega
  ·simp at hu)
 exact hK _ _ _ _ (h1.set (fun i hi=>by injection hi with hi;omega) (by show _=c7 (lW _ _ _ _);rw [bH];rfl))
theorem KZ {o:Oper} {t:TypeId} {x:Operand} {d:Nat} {s:List UInt8} (hR:Rel N w0 μ0 L μ loc st a w) (hd:d<N) (b9:o.dst=some d) (ho:o.op= .range t x) (ht:P.underlying t=some .string) (hx:(aM P t st x).bind dS =some (.str s))
  (hK:iy N w0 μ0 L ((st.new d (.it s 0)).set (some d) (.ptr d 0)) K):o.oC P a w K Q:=by
 have hv:=cK hR hx;rw [rep] at hv;refine dW (v:= .pointer (some ⟨w.heap.size,0,none⟩)) (w':=w.alloc (.stringIter ⟨s.toArray⟩ 0)) (by unfold execOp;rw [ho];simp [Instr.range,run_underlying ht,hv,newObj,Sem.run]) ?_;rw [b9];refine hK _ _ _ _ (hR.made hd (fun g hg=>jj.1 hg) ?_ ?_)
 ·exact ⟨w.heap.size,bH _ _ _, .inl hR.grown,(by show (w.heap.push _)[w.heap.size]? =_;simp),pG hR _ (Nat.le_refl _)⟩
 ·exact ⟨w.heap.size,bH _ _ _,rfl⟩
theorem MX {o:Oper} {x:Operand} {d id pos:Nat} {s:List UInt8} (hR:Rel N w0 μ0 L μ loc st a w) (hd:d<N) (b9:o.dst=some d) (ho:o.op= .next x true) (hx:aM P 0 st x=some (.ptr id 0)) (cz:st.ob id=some (.it s pos))
  (hK:if pos<s.length then iy N w0 μ0 L (St.set { st with ob:=put st.ob id (some (.it s (pos+(Utf8.decode ⟨s.toArray⟩ pos).2))) } (some d) (.pv (.e9 [.bool true, .int .i64 pos, .int .i32 (Utf8.decode ⟨s.toArray⟩ pos).1]))) K
   else iy N w0 μ0 L (st.set (some d) (.pv (.e9 [.bool false]))) K):o.oC P a w K Q:=by
 obtain ⟨b0,hl0,hv⟩:=aG hR hx;obtain ⟨b,hl,hown,hh,nR⟩:=hR.obs id _ cz;rw [hl] at hl0;simp only [Value.pointer.injEq,Option.some.injEq,Addr.mk.injEq,and_true] at hl0;subst hl0;have hsz:(⟨s.toArray⟩:ByteArray).size=s.length:=by simp [ByteArray.size]
 have hlt:=(Array.getElem?_eq_some_iff.1 hh).1;have iE:(getObj b).run P w= .ok (.stringIter ⟨s.toArray⟩ pos) w:=by simp [getObj,Sem.run,hh]
 by_cases hp:pos<s.length
 ·rw [if_pos hp] at hK
  refine dW (v:= .tuple #[.bool true, .int .i64 pos, .int .i32 (Utf8.decode ⟨s.toArray⟩ pos).1]) (w':={ w with heap:=w.heap.setIfInBounds b (.stringIter ⟨s.toArray⟩ (pos+(Utf8.decode ⟨s.toArray⟩ pos).2)) }) (by
   unfold execOp;rw [ho];simp [Instr.next,hv,iE,hsz,hp,goInt]
   simp [setObj,Sem.run,hh]) ?_
  rw [b9]
  have r1:=hR.write cz (o':= .it s (pos+(Utf8.decode ⟨s.toArray⟩ pos).2)) (g:=b) (by rw [hl];exact jj.2 rfl) (w':={ w with heap:=w.heap.setIfInBounds b (.stringIter ⟨s.toArray⟩ (pos+(Utf8.decode ⟨s.toArray⟩ pos).2)) }) (fun b' hb'=>by
   simp only [];rw [Array.getElem?_setIfInBounds_ne (fun e=>hb' e.symm)]) rfl rfl rfl (by simp) ⟨b,hl,hown,by simp [hlt],nR⟩
  refine hK _ _ _ _ (r1.set (fun i hi=>by injection hi with hi;omega) ?_);show rep μ (.e9 _) _;rw [rep];exact ⟨[.bool true, .int .i64 pos, .int .i32 (Utf8.decode ⟨s.toArray⟩ pos).1],rfl,bA (by simp [rep]) (bA (by simp [rep]) (bA (by simp [rep]) cu))⟩
 ·rw [if_neg hp] at hK
  refine dW (v:= .tuple #[.bool false]) (w':=w) (by
   unfold execOp;rw [ho]
   simp [Instr.next,hv,iE,hsz,hp]) ?_
  rw [b9];refine hK _ _ _ _ (hR.set (fun i hi=>by injection hi with hi;omega) ?_);show rep μ (.e9 _) _;rw [rep];exact ⟨[.bool false],rfl,bA (by simp [rep]) cu⟩
end
end Go.AM
