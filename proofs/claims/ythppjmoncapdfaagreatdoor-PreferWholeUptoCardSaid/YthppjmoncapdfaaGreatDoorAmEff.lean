/- THE ABSTRACT MACHINE. -/
import Derived.Test.YthppjmoncapdfaaGreatDoorAmStep
set_option linter.all false
open List (replicate)
namespace Go.AM
open Go.RowKit
section
variable {μ μ':Mu} {loc:Nat→Value}
theorem tV {sz b:Nat} {xs:List (List AV)} {vs:List Value} {off:Nat} (h:c4 μ sz xs vs) (hle:μ.le μ') (hc:∀j u,vs[j]? =some u→μ' b (off+j)=some u):kS μ' sz b xs off:=by
 induction xs generalizing vs off with
 |nil=>simp [kS]
 |cons x xs ih=>
  obtain ⟨us,ws,rfl,h1,h2,h3⟩:=h;refine ⟨⟨us,(h1.mono hle).1,h1.2,h2,fun j u hu=>hc j u ?_⟩,ih h3 fun j u hu=> ?_⟩
  ·grind
  simp_all [gr,kB]
theorem nU {sz:Nat} {xs ys:List (List AV)} {vs us:List Value} (h:c4 μ sz xs vs) (k:c4 μ sz ys us):c4 μ sz (xs++ys) (vs++us):=by
 induction xs generalizing vs with
 |nil=>have:vs=[]:=h;simp_all
 |cons x xs ih=>obtain ⟨a,b,rfl,h1,h2,h3⟩:=h;exact ⟨a,_,by simp,h1,h2,ih h3⟩
theorem qI {sz:Nat} {z:List AV} {zs:List Value} (h:ku μ z zs) (hl:zs.length=sz):∀n,c4 μ sz (replicate n z) (replicate n zs).flatten
 |0=>rfl
 |n+1=>⟨zs,_,by rfl,h,hl,qI h hl n⟩
theorem zn {sz:Nat}:∀(n:Nat) {cs:List AV} {vs:List Value},ku μ cs vs→cs.length=n *sz→c4 μ sz (chunks sz n cs) vs
 |0,cs,vs,h,hl=>by
  have :=lJ (by rw [h.length];omega)
  assumption
 |n+1,cs,vs,h,hl=>by
  rw [jl] at hl;have hv:=h.length;exact ⟨_,_,by simp,h.take _,by simp;omega,zn n (h.drop _) (by simp;omega)⟩
theorem Ef {z:List AV} {zs:List Value} (h:ku μ z zs):∀n,ku μ (tC z n) (replicate n zs).flatten
 |0=>⟨ef,by simp⟩
 |n+1=>by simpa [tC,zM] using h.append (Ef h n)
theorem zm (z:List AV):∀n,(tC z n).length=n *z.length
 |0=>by simp [tC]
 |n+1=>by simp [tC,zm z n,jl];omega
theorem By (sz:Nat):∀(n:Nat) (l:List AV),(chunks sz n l).length=n
 |0,_=>rfl
 |n+1,l=>by simp [chunks,By _ n]
theorem jT {id:Nat} {s:SV} {v:Value} (k:gy μ loc s v):gy μ loc (s.dm id) v:=by
 unfold SV.dm;cases s.mentions _ with
 |true=>trivial
 |false=>exact k
theorem NP {id:Nat} {s:SV} {v:Value} {x:AV} (k:gy μ loc s v) (hx:rep μ x (fM (loc id))):gy μ loc (s.dD id x) v:=by
 cases s with
 |row j=>
  cases h:Nat.beq j id with
  |true=>
   simp [SV.dD,h];have:=beq_iff.1 h;subst this;have e :=k;rw [e];exact hx
  |false=>simp_all [SV.dD]
 |_=>exact jT k
theorem rowS' {id:Nat} {v u:Value} (h:fM v=u):gy μ (r6 loc id v) (.row id) u:=by
 show u=fM _;rw [cv,h]
theorem JM {id:Nat} {v:Value} (h:fM v=v):gy μ (r6 loc id v) (.row id) v:=by
 show v=fM _;rw [cv,h]
theorem uE (zc:Array Value) (s:Nat) (hz:zc.size=s) (hs:0<s) (n:Nat):(madeCells zc (n *s)).toList=(replicate n zc.toList).flatten:=by
 have key:∀n,(List.range (n *s)).map (fun i=>zc[i % s]!)=(replicate n zc.toList).flatten:=by
  intro n
  induction n with
  |zero=>simp
  |succ n ih=>
   rw [zN,s6,List.range_add];have h1:(List.range s).map (fun i=>zc[i % s]!)=zc.toList:=by
    apply kE;intro i;by_cases hi:i<s
    ·simp_all [lP]
    ·simp_all
   have h2:((fun i=>zc[i % s]!)∘fun x=>s+x)=fun i=>zc[i % s]! :=by
    funext i;simp
   grind
 simp_all [madeCells]
theorem OZ (zs:List Value) {l c:Nat} (h:l≤c):(replicate c zs).flatten.take (l *zs.length)=(replicate l zs).flatten:=by
 obtain ⟨d,rfl⟩:=Nat.exists_eq_add_of_le h;rw [←List.replicate_append_replicate,List.flatten_append];simp_all [jm]
end
section
variable {P:Program} {N:Nat} {w0:World} {μ0:Mu} {L:sq} {μ:Mu} {loc:Nat→Value} {st st':St} {a:Act} {w:World} {Q:Exit→Act→World→Prop} {K:Act→World→Prop}
theorem Az {e sz:Nat} {xs:List (List AV)} {u:Value} {cells:List Value} (hown:w.ownsRow 0 e sz u xs.length cells) (hrc:c4 μ sz xs cells) {μ':Mu} (hle:μ.le μ')
  (hm:∀b j v,bu u=some b→EH w b j=some v→μ' b j=some v):rep μ' (.eH sz xs) u:=by
 have hone:=lX hrc;rw [rep];rcases hown.2 with ⟨e1,e2⟩|⟨g,cap,cur,e1,_,hg,hnc,hcm,_⟩
 ·grind
 ·refine ⟨_,_,e1,hnc,hcm, .inr ⟨g,0,rfl,tV hrc hle fun j u hu=> ?_⟩⟩
  have:=hown.cells (by rw [e1];rfl) j u hu;rw [add_lit] at this;exact hm g _ u (by rw [e1];rfl) (tE this (hone u (aT hu)))
theorem zS {α:Type}:∀{vs:List (Option α)} {l:List α},pO vs=some l→vs=l.map some
 |[],l,h=>by simp_all [pO]
 |none::vs,l,h=>by simp [pO] at h
 |some x::vs,l,h=>by
  simp [pO,bS] at h;obtain ⟨l',h1,rfl⟩:=h;simp [zS h1]
theorem JH {cs:List AV}:∀{k:Nat} {vs:List Value} {u:Value} {a:AV},bV μ cs vs→vs[k]? =some u→rep μ a u→bV μ (cs.set k a) vs:=by
 induction cs with
 |nil=>simp_all
 |cons c cs ih=>
  intro k vs u a h hu hr;obtain ⟨v,us,rfl,h1,h2⟩:=h;cases k with
  |zero=>simp at hu;subst hu;exact ⟨v,us,rfl,hr,h2⟩
  |succ k=>exact ⟨v,us,rfl,h1,ih h2 (by assumption) hr⟩
theorem zq {k sz sz':Nat} {μ':Mu} (hle:μ.le μ') (hk:k<sz):∀{xs:List (List AV)} {l:List (List (List AV))} {vs:List Value},c4 μ sz xs vs→xs.length=l.length→
  (∀(i:Nat) zs,l[i]? =some zs→∃u,vs[i *sz+k]? =some u∧rep μ' (.eH sz' zs) u)→c4 μ' sz (wL k sz' xs l) vs
 |[],[],vs,h,_,_=>h
 |[],_::_,vs,_,h,_=>by simp at h
 |_::_,[],vs,_,h,_=>by simp at h
 |x::xs,y::l,vs,⟨us,ws,e,h1,h2,h3⟩,hl,hall=>by
  subst e;obtain ⟨u,hu,hr⟩:=hall 0 y (by simp);rw [vG,gE,di (by omega)] at hu;refine ⟨us,ws,rfl,⟨JH (fJ hle _ _ h1.1) hu hr,h1.2⟩,h2,zq hle hk h3 (by simp_all) fun i zs hi=> ?_⟩;obtain ⟨u2,YQ,hr2⟩:=hall (i+1) _ (by assumption)
  grind
theorem BV {k sz':Nat}:∀{xs:List (List AV)} {l:List (List (List AV))},xs.length=l.length→(wL k sz' xs l).length=xs.length
 |[],[],_=>rfl
 |[],_::_,h=>by simp at h
 |_::_,[],h=>by simp at h
 |x::xs,y::l,h=>by simp [wL,BV (xs:=xs) (l:=l) (by simp_all)]
theorem O0 {n0:Nat} {id:Nat} {o:Ob} {v:AV} (h:mE n0 L μ loc w id o) (hv:o.val=some v) {μ':Mu} (hle:μ.le μ')
  (hm:∀b j v,jH (loc id) b→EH w b j=some v→μ' b j=some v):rep μ' v (fM (loc id)):=by
 cases o with
 |box t cells=>simp [Ob.val] at hv
 |it s n=>simp [Ob.val] at hv
 |lp s=>simp [Ob.val] at hv
 |row e sz xs=>
  simp only [Ob.val,aG] at hv;subst hv;rw [jf h];obtain ⟨vs,hown,hrc,_⟩:=h;exact Az hown hrc hle (fun b j v hb=>hm b j v (.inl hb))
 |mp k e ks es=>
  simp only [Ob.val,aG] at hv;subst hv;rw [U8 h];obtain ⟨b,cN,clock,hl,_,hh,_,h1,h2,_⟩:=h;rw [rep,hl];exact .inr ⟨b,_,_,rfl,fJ hle _ _ h1,fJ hle _ _ h2,hm b 0 _ (by rw [hl];exact uC.2 rfl) (JT hh)⟩
 |mr k e sz ks vs=>
  simp only [Ob.val,bS] at hv;obtain ⟨l,hal,rfl⟩:=hv;obtain ⟨b,cN,clock,us,hl,_,hh,_,h1,h2,h3,h4,h5,h6⟩:=h;have hvs:=zS hal;rw [hl,rep];refine .inr ⟨b,_,cN.toList.map (·.val),rfl,fJ hle _ _ h1,?_,hm b 0 _ (by rw [hl];exact oI.2 (.inl rfl)) (JT hh)⟩;have key:∀(l:List (List (List AV))) (es:List Value),es.length=l.length→(∀(i:Nat) xs,l[i]? =some xs→∃u,es[i]? =some u∧rep μ' (.eH sz xs) u)→bV μ' (l.map (.eH sz)) es:=by
   intro l
   induction l with
   |nil=>intro es he _;rw [lJ he];exact ef
   |cons x l ih=>
    intro es he hall;cases es with
    |nil=>simp at he
    |cons u es=>
     obtain ⟨u',GV,hr⟩:=hall 0 x (by simp);simp at GV;subst GV
     exact bY hr (ih es (by simpa using he) (fun i xs hi=>by
      obtain ⟨u2,YQ,hr2⟩:=hall (i+1) xs (by assumption)
      exact ⟨u2,by simpa using YQ,hr2⟩))
  refine key l _ (by simp [h3,hvs]) (fun i xs hi=> ?_);obtain ⟨u,cells,k1,k2,k3,k4,k5⟩:=h4 i xs (by rw [hvs];simp [hi]);exact ⟨u,k2,Az k3 k4 hle (fun g j v hg=>hm g j v (by rw [hl];exact oI.2 (.inr ⟨u,aT k1,hg⟩)))⟩
 |rn e sz k e' sz' xs ys=>
  simp [Ob.val,bS] at hv;obtain ⟨l,hal,rfl⟩:=hv;obtain ⟨m,us,vs,hl,_,hown,hrc,hk,h2,h3,h4,h5,h6,h7⟩:=h;have hvs:=zS hal;have MT:xs.length=l.length:=by simp_all
  rw [hl];show rep _ _ m;refine Az (by rw [BV MT];omega) (zq hle hk.1 hrc MT fun i zs hi=> ?_) (Mu.le.refl _) fun b j v hb hs=>hm b j v (by simp_all [jZ]) hs
  obtain ⟨u,cells,k1,k2,k3,k4,k5⟩:=h4 i zs (by simp_all)
  grind [Az,jZ]
open Classical in
noncomputable def rP (w:World) (loc:Nat→Value) (id:Nat) (μ:Mu):Mu:=fun b j=>if jH (loc id) b then EH w b j else μ b j
theorem Rel.acr (hR:Rel N w0 μ0 L μ loc st a w) {id:Nat} {o:Ob} (dG:st.ob id=some o) (hlt:id<10000) (f:SV→SV) (g:Ob→Ob) (hf:∀s v,gy (rP w loc id μ) loc s v→gy (rP w loc id μ) loc (f s) v)
  (hg:∀ob,g ob=match ob with| .box t cells=> .box t (cells.map f)|o=>o):
  μ.le (rP w loc id μ)∧Rel N w0 μ0 L (rP w loc id μ) loc { env:=fun i=>(st.env i).map f,ob:=put (fun i=>(st.ob i).map g) id none } a w:=by
 have hok:=hR.obs _ _ dG;have hfs:∀(cs) (vs),iQ (rP w loc id μ) loc cs vs→iQ (rP w loc id μ) loc (cs.map f) vs:=by
  intro cs
  induction cs with
  |nil=>simp
  |cons c cs ih=>rintro vs ⟨u,us,e,h1,h2⟩;exact ⟨u,us,e,hf _ _ h1,ih _ h2⟩
 have hle:μ.le (rP w loc id _):=fun b j v hv=>by
  by_cases hb:jH (loc id) b
  ·have:=(hok.block b hb).2.2 j;simp_all
  ·simpa [rP,hb] using hv
 have hother:∀i oi,i≠id→st.ob i=some oi→∀b,jH _ b→∀j,rP w loc id _ b j=none:=fun i oi hne hi b hb j=>by
  have hn :=fun hid=>hR.apart _ i _ _ dG hi (fun e=>hne e.symm) b hid hb
  simp [rP,ak hn];exact (hR.obs i _ hi).block b hb|>.2.2 j
 have h1:=(hR.drop id).world hle (fun b j v hv=>by
   by_cases hb:jH (loc id) b
   ·rcases (hok.block b hb).1 with hh|⟨v,hh,_⟩
    ·omega
    ·rw [hR.names _ hlt] at hh;grind
   simp_all [rP]) (fun b j v hv=>by
   by_cases hb:jH (loc id) b
   ·simpa [rP,hb] using hv
   ·exact hR.uI b j v (by simpa [rP,hb] using hv)) (fun i oi hi b hb=>by
   grind [cu,bl]) (fun _ _ _=>rfl) rfl rfl rfl (aS _)
 refine ⟨hle,h1.small,h1.names,h1.fix,h1.size,h1.defers,?_,h1.uI,h1.base,?_,?_,h1.keep,h1.os,h1.tape,h1.output,h1.grown,h1.drawn⟩
 ·intro i s hi
  cases he:st.env i with
  |none=>simp_all
  |some s'=>
   simp [he] at hi;subst hi;obtain ⟨v,hv,hr⟩:=h1.env i _ he;simp_all
 ·intro i oi hi
  by_cases e':id=i
  ·simp_all [cu]
  ·simp [bl _ _ e'] at hi
   cases ho:st.ob i with
   |none=>simp_all
   |some oj=>
    simp [ho] at hi;subst hi;have k:=h1.obs i oj (by simp_all [bl]);rw [hg];cases oj with
    |box t cells=>
     obtain ⟨b,vs,hl,ho',hh,hm,hs,MO⟩:=k;exact ⟨b,vs,hl,ho',hh,hm,hfs _ _ hs,MO⟩
    |row e2 sz2 xs2=>exact k
    |mp k2 e2 ks2 vs2=>exact k
    |mr k2 e2 s2 ks2 vs2=>exact k
    |it s2 n2=>exact k
    |lp s2=>exact k
    |rn e2 s2 k2 e3 s3 x2 y2=>exact k
 ·intro i j oi oj hi hj hij
  have get:∀k ok,put (fun i=>(st.ob i).map g) id none k=some ok→∃ok',st.ob k=some ok':=fun k ok hk=>by
   by_cases e':id=k
   ·simp_all
   ·simp [bl _ _ e'] at hk
    cases ho:st.ob k with
    |none=>simp_all
    |some x=>simp
  obtain ⟨oi',hi'⟩:=get i _ hi;obtain ⟨oj',hj'⟩:=get j _ hj;exact hR.apart i j _ _ hi' hj' hij
theorem acn {id:Nat} (h:xk id=true):id<10000:=by simp_all [xk]
theorem Rel.dD (hR:Rel N w0 μ0 L μ loc st a w) {id:Nat} (h:st.dD id=some st'):∃μ',μ.le μ'∧Rel N w0 μ0 L μ' loc st' a w:=by
 unfold St.dD at h;split at h
 ·rename_i v hid vD
  injection h with h
  subst h;obtain ⟨o,dG,hval⟩:=dw.1 vD;have hok:=hR.obs _ _ dG;have hle:μ.le (rP w loc id _):=fun b j v hv=>by
   by_cases hb:jH (loc id) b
   ·have:=(hok.block b hb).2.2 j;simp_all
   ·simpa [rP,hb] using hv
  have yH :=O0 hok hval hle fun b j v hb hc=>by simpa [rP,hb] using hc
  exact ⟨_,hR.acr dG (acn hid) _ _ (fun s u hs=>NP hs yH) (fun ob=>by rfl)⟩
 grind
theorem Rel.qh (hR:Rel N w0 μ0 L μ loc st a w) {id:Nat} (h:st.qh id=some st'):∃μ',μ.le μ'∧Rel N w0 μ0 L μ' loc st' a w:=by
 unfold St.qh at h;split at h
 ·rename_i t cells hid dG
  split at h
  ·rename_i cs hcs
   injection h with h
   subst h;obtain ⟨b,vs,hl,ho,hh,hm,hs,h1⟩:=hR.obs _ _ dG;have hle:μ.le (rP w loc id μ):=fun b' j v hv=>by
    by_cases hb:jH (loc id) b'
    ·have:=((hR.obs _ _ dG).block _ hb).2.2 j;simp_all
    simp_all [AM.rP]
   have hc:ku _ _ _:=⟨fJ hle _ _ (FP hcs hs),h1⟩
   refine ⟨_,hR.acr dG (acn hid) _ _ (fun s u hs=> ?_) (fun ob=>by rfl)⟩;cases s with
   |ptr j off=>
    simp [SV.qh];cases hj:Nat.beq j _ with
    |false=>exact hs
    |true=>
     have:=beq_iff.1 hj;subst this;obtain ⟨b',hl',rfl⟩:=hs;rw [hl] at hl';obtain ⟨rfl,_⟩:=hl';refine ⟨b,_,_,rfl,hc.drop _,fun k u hu=> ?_⟩;rw [s5] at hu;have e:jH (loc j) b:=by rw [hl];exact qy.2 rfl
     simp [AM.rP,au e];exact tE (by rw [cell_of_row w b _ _ t _ hh];simp_all) (h1 u (aT hu))
   |undef=>assumption
   |any=>assumption
   |pv x=>assumption
   |row j=>exact jT hs
   |rp j sz i off=>exact jT hs
   |sub j sz lo hi=>exact jT hs
   |cp c=>assumption
   |cl f caps=>exact jT hs
   |ag caps=>exact jT hs
   | «at» j q=>exact jT hs
   |two s b=>exact jT hs
  grind
 grind
theorem K1 (hR:Rel N w0 μ0 L μ loc st a w):∀{xs:List Operand} {st st':St} {μ:Mu},Rel N w0 μ0 L μ loc st a w→vZ st xs=some st'→∃μ',μ.le μ'∧Rel N w0 μ0 L μ' loc st' a w:=by
 intro xs
 induction xs with
 |nil=>grind [vZ,Mu.le.refl]
 |cons x xs ih=>
  intro st st' μ h hp;cases x with
  |tmp i=>
   simp [vZ] at hp;split at hp
   ·rename_i id off hi
    cases h1:st.qh id with
    |none=>simp_all
    |some st1=>
     rw [h1] at hp;obtain ⟨μ1,hle1,IW⟩:=h.qh h1;obtain ⟨μ2,hle2,Vu⟩:=ih IW hp;exact ⟨_,hle1.trans hle2,Vu⟩
   grind
  |const v=>exact ih h hp
  |func f=>exact ih h hp
  |global g=>exact ih h hp
def Wd (F:Fence):Prop:=F.plain=Fence.wide
theorem Wd.fn {F:Fence} (h:Wd F) (f:FuncId):F.fn f:=by
 have:F.plain.fn=Fence.wide.fn:=aI _ h;have:F.fn=Fence.wide.fn:=this;rw [this];trivial
theorem Wd.depth {F:Fence} (h:Wd F):F.depth=none:=by
 have:F.plain.depth=Fence.wide.depth:=aI _ h;exact this
theorem Wd.one {F:Fence} (h:Wd F) {p:Prop}:F.depth.isSome=true→p:=fun e=>by rw [h.depth] at e;cases e
theorem Wd.plain {F:Fence} (h:Wd F) (hr:F.round=none):F=Fence.wide:=by
 have:=h;unfold Wd Fence.plain at this;rw [←hr] at this;omega
theorem Wd.wide:Wd Fence.wide:=rfl
def _root_.Go.Oper.uM (P:Program) (o:Oper) (a:Act) (w:World) (K:Act→World→Prop) (Q:Exit→Act→World→Prop):Prop:=∀F,Wd F→o.wpIn F 0 P a w K Q
theorem KF {o:Oper} {x:Next} {w':World} (hnd:∀c,o.op≠ .defer c) (hr:(execOp a.eval o).run P w= .ok x w') (h:∀F,Wd F→o.uponIn F 0 P a K Q (.ok x w')):o.uM P a w K Q:=fun F hF=>by
 unfold Oper.wpIn;rw [Oper.semAt_eq _ _ _ hnd,hr];exact ⟨fun f _=>hF.fn f,h F hF⟩
theorem EE {o:Oper} {w':World} (hr:(execOp a.eval o).run P w= .ok .skip w') (hK:K (a.put o.dst undef) w'):o.uM P a w K Q:=
 KF (fun c hc=>by
  unfold execOp at hr;cases hx:(resolve a.eval c o.type).run P w with
  |ok d w2=>simp_all
  |halt e w2=>simp_all) hr fun _ _=>hK
theorem gO {o:Oper} {v:Value} {w':World} (hr:(execOp a.eval o).run P w= .ok (.value v) w') (hK:K (a.put o.dst v) w'):o.uM P a w K Q:=
 KF (fun c hc=>by
  unfold execOp at hr;cases hx:(resolve a.eval c o.type).run P w with
  |ok d w2=>simp_all
  |halt e w2=>simp_all) hr fun _ _=>hK
def nk (N:Nat) (w0:World) (μ0:Mu) (L:sq) (st':St) (K:Act→World→Prop):Prop:=∀a' w' μ' loc',Rel N w0 μ0 L μ' loc' st' a' w'→K a' w'
theorem oM (hR:Rel N w0 μ0 L μ loc st a w) {o:Oper} {sv:SV} (hd:∀i,o.dst=some i→i<N) (hg:oh P μ loc o sv a w) (hK:nk N w0 μ0 L (st.set o.dst sv) K):o.uM P a w K Q:=by
 obtain ⟨v,hr,hs⟩:=hg;exact gO hr (hK _ _ _ _ (hR.set hd hs))
theorem vi (hR:Rel N w0 μ0 L μ loc st a w):∀b,w.heap.size≤b→∀j,μ b j=none:=fun b hb j=>by
 cases hj:μ b j with
 |none=>rfl
 |some v=>
  have:=mq (hR.uI b j v hj);omega
theorem qL (w:World) (o:Obj):Below w.heap.size w (w.alloc o):=(jo _ _).alloc (aS _) o
theorem Rel.made (hR:Rel N w0 μ0 L μ loc st a w) {d:Nat} (hd:d<N) {x:Obj} {val:Value} {o:Ob} {sv:SV} (hval:∀g,jH val g→g=w.heap.size)
  (dG:mE w0.heap.size L μ (r6 loc d val) (w.alloc x) d o) (hs:gy μ (r6 loc d val) sv val):
  Rel N w0 μ0 L μ (r6 loc d val) ((st.new d o).set (some d) sv) (a.put (some d) val) (w.alloc x):=by
 have h1:=(hR.Qm (qL w x)).new (.inl (eX hd hR.small)) dG (fun j oj hj hne g hg=>by
  have:=hval g hg;intro hb;have:=((hR.obs j _ hj).block _ hb).2.1
  omega)
 exact h1.set (fun i hi=>by simp_all) hs
theorem Rel.made' (hR:Rel N w0 μ0 L μ loc st a w) {d:Nat} (hd:d<N) {x:Obj} {val u:Value} {o:Ob} {sv:SV} (hval:∀g,jH val g→g=w.heap.size)
  (dG:mE w0.heap.size L μ (r6 loc d val) (w.alloc x) d o) (hs:gy μ (r6 loc d val) sv u):
  Rel N w0 μ0 L μ (r6 loc d val) ((st.new d o).set (some d) sv) (a.put (some d) u) (w.alloc x):=by
 have h1:=(hR.Qm (qL w x)).new (.inl (eX hd hR.small)) dG (fun j oj hj hne g hg=>by
  have:=hval g hg;intro hb;have:=((hR.obs j _ hj).block _ hb).2.1
  omega)
 exact h1.set (fun i hi=>by simp_all) hs
theorem DE {o:Oper} {t:TypeId} {d:Nat} {v:Value} {cells:List SV} (hR:Rel N w0 μ0 L μ loc st a w) (hd:d<N) (dc:o.dst=some d)
  (hr:(execOp a.eval o).run P w= .ok (.value (.pointer (some ⟨w.heap.size,0,none⟩))) (w.alloc (.cells v.cells t)))
  (hs:iQ μ (r6 loc d (.pointer (some ⟨w.heap.size,0,none⟩))) cells v.cells.toList) (h1:∀u∈v.cells.toList,u.oneCell'=true)
  (hK:nk N w0 μ0 L ((st.new d (.box t cells)).set (some d) (.ptr d 0)) K):o.uM P a w K Q:=by
 refine gO hr ?_;rw [dc];refine hK _ _ _ _ (hR.made hd (by simp [jH,bu]) ?_ ?_)
 ·refine ⟨_,_,cv _ _ _, .inl hR.grown,?_,vi hR _ (aS _),hs,h1⟩
  exact s7 w _
 ·exact ⟨_,cv _ _ _,rfl⟩
theorem Uk (hR:Rel N w0 μ0 L μ loc st a w) {s:SV} {v:Value} (h:rN st s=true) (k:gy μ loc s v):v.oneCell'=true∧v.cells= #[v]:=by
 cases s with
 |undef=>simp [rN] at h
 |any=>simp [rN] at h
 |pv x=>
  cases x with
  |agg cs=>simp [rN] at h
  |mu cs=>simp [rN] at h
  |self n=>simp [gy,rep] at k
  |DZ=>subst k;exact ⟨rfl,rfl⟩
  |rK=>subst k;exact ⟨rfl,rfl⟩
  |hole=>assumption
  |bool b=>subst k;exact ⟨rfl,rfl⟩
  |int q n=>subst k;exact ⟨rfl,rfl⟩
  |str q=>subst k;exact ⟨rfl,rfl⟩
  |eH sz xs=>obtain ⟨A,c,rfl,_⟩:=k;exact ⟨rfl,rfl⟩
  |fn f caps=>obtain ⟨vs,rfl,_⟩:=k;exact ⟨rfl,rfl⟩
  |ref cs=>obtain ⟨b,off,vs,rfl,_⟩:=k;exact ⟨rfl,rfl⟩
  |mp ks es=>rcases k with ⟨rfl,_⟩|⟨b,kv,ev,rfl,_⟩<;>exact ⟨rfl,rfl⟩
 |ptr id off=>obtain ⟨b,_,rfl⟩:=k;exact ⟨rfl,rfl⟩
 |row id=>
  simp [rN] at h;split at h
  ·rename_i e sz xs dG
   obtain ⟨vs,hown,_⟩:=hR.obs _ _ dG;have e :=k;rcases hown.2 with ⟨e1,_⟩|⟨g,cap,cur,e1,_⟩<;>(rw [e,e1];exact ⟨rfl,rfl⟩)
  ·rename_i k' e' ks vs dG
   obtain ⟨b,cN,clock,hl,_⟩:=hR.obs _ _ dG;have e :=k;rw [e,hl];exact ⟨rfl,rfl⟩
  ·rename_i e' sz q e2 s2 xs ys dG
   obtain ⟨m,us,vs,hl,_,hown,_⟩:=hR.obs _ _ dG;have e:v=m:=(k).trans (by rw [hl];rfl);rcases hown.2 with ⟨e1,_⟩|⟨g,cap,cur,e1,_⟩<;>(rw [e,e1];exact ⟨rfl,rfl⟩)
  grind
 |rp id sz i off=>obtain ⟨g,n,c,_,rfl⟩:=k;exact ⟨rfl,rfl⟩
 |sub id sz lo hi=>simp [rN] at h
 |two s b=>simp [rN] at h
 |cp cs=>obtain ⟨b,off,vs,rfl,_⟩:=k;exact ⟨rfl,rfl⟩
 |cl f caps=>
  obtain ⟨vs,rfl,_⟩:=k;unfold clV;cases Nat.blt f _ with
  |true=>exact ⟨rfl,rfl⟩
  |false=>
   cases Nat.blt f _ with
   |true=>exact ⟨rfl,rfl⟩
   |false=>split<;>exact ⟨rfl,rfl⟩
 |ag caps=>simp [rN] at h
 | «at» j q=>simp [rN] at h
theorem sA {loc:Nat→Value}:∀{caps:List qm} {vs:List Value},kz μ loc caps vs→iQ μ loc (caps.map IC) vs
 |[],vs,h=>h
 |c::cs,vs,⟨u,us,e,h1,h2⟩=>by
  refine ⟨u,us,e,?_,sA h2⟩;cases c with
  |v a=>exact h1
  |p id=>exact h1
  |r id=>exact h1
theorem Nb (hR:Rel N w0 μ0 L μ loc st a w) {t:TypeId} {len:Nat} {parts:Array (Nat×Operand)} {e:TypeId} {s:Nat} {xs:List (List AV)} (h:kM P t len parts.toList st=some (e,s,xs)):
  ∃vs:List Value,(Instr.buildSlice t len (parts.map fun p=>(p.1,a.eval p.2))).run P w= .ok (.slice (some ⟨w.heap.size,0,none⟩) len len) (w.alloc (.cells vs.toArray e))∧c4 μ s xs vs∧xs.length=len∧len≤maxLen∧0<s:=by
 unfold kM at h;split at h
 ·rename_i e' s' hs
  obtain ⟨hu,inf,nE,hsz⟩:=gA hs;split at h
  ·rename_i z ps hz hps
   split at h
   ·rename_i hc
    obtain ⟨hlen,hpos,hzl,hnt⟩:=hc;cases hf:wS (fun i=>some (i *s',s')) (tC z len) ps with
    |none=>simp_all
    |some cs=>
     simp [hf] at h;obtain ⟨rfl,rfl,rfl⟩:=h;obtain ⟨i,v,hi,hv,hcz⟩:=qx (μ:=μ) hz;rw [nE] at hi;injection hi with hi;subst hi
     obtain ⟨h1,h2⟩:=wJ hR hps;have hzc :=by have:=hcz.length;simpa [hzl] using this
     obtain ⟨ws,hw,hr⟩:=Ce (us:=parts.toList.map fun p=>(p.1,a.eval p.2)) hf (Ef hcz _) (by simp_all) (by simp_all [kD]) (fun p hp x e=>by
      have:=cg.1 hnt p hp
      rw [e] at this;cases this)
     have GR:cs.length=len *s':=by
      have key:∀(ps) (cells cs),wS (fun i=>some (i *s',s')) cells ps=some cs→cs.length=cells.length:=by
       intro ps
       induction ps with
       |nil=>simp_all [wS]
       |cons p ps ih=>
        grind [wS]
      grind [zm]
     refine ⟨ws,?_,zn _ hr GR,By _ _ _,by simp [maxLen];have:len *1≤len *s':=FN _ hpos;omega,hpos⟩;have hmade:(replicate len v.cells.toList).flatten.toArray=madeCells v.cells (len *s'):=by
      grind [uE]
     rw [hmade] at hw;by_cases h0:len *s'=0
     ·have e0:madeCells v.cells (len *s')= #[]:=by rw [h0];simp [madeCells]
      rw [e0] at hw;simp [Instr.buildSlice,bz hu,sizeOf,typeInfo,nE,hsz,h0,hw,newRow,Array.range_zero']
     ·simp [madeCells] at hw
      simp [Instr.buildSlice,bz hu,sizeOf,typeInfo,nE,hsz,h0,zeroValue,hv,hw,newRow,hlen]
   grind
  grind
 grind
theorem Mt {o:Oper} {t:TypeId} {len:Nat} {parts:Array (Nat×Operand)} {d e s:Nat} {xs:List (List AV)} (hR:Rel N w0 μ0 L μ loc st a w) (hd:d<N) (dc:o.dst=some d) (ho:o.op= .buildSlice t len parts)
  (h:kM P t len parts.toList st=some (e,s,xs)) (hK:nk N w0 μ0 L ((st.new d (.row e s xs)).set (some d) (.row d)) K):o.uM P a w K Q:=by
 obtain ⟨vs,hr,hrc,hxl,hml,hpos⟩:=Nb hR h;refine gO (v:= .slice (some ⟨w.heap.size,0,none⟩) len len) (w':=w.alloc (.cells vs.toArray e)) (by simp_all [execOp]) ?_;rw [dc];refine hK _ _ _ _ (hR.made hd (by simp [jH,bu]) ?_ (JM rfl));refine ⟨vs,⟨by rw [dr hrc], .inr ⟨_,_,_,?_,dh _,s7 w _,by omega,hml,?_,?_⟩⟩,hrc,fun g hg=> ?_⟩
 ·rw [cv,hxl]
 ·grind [dr]
 ·rw [hxl,←hxl,←dr hrc];simp
 ·rw [cv] at hg
  simp [jH,bu] at hg;subst hg;exact ⟨.inl hR.grown,vi hR _ (aS _)⟩
theorem yM {k:Nat} {c:List AV} (h:qz k c=true):c[k]? =some .rK:=by
 grind [qz]
theorem vw {sz k:Nat}:∀{xs:List (List AV)} {vs:List Value},c4 μ sz xs vs→xs.all (qz k)=true→k<sz→c4 μ sz (xs.map fun c=>c.set k .hole) vs∧∀i,i<xs.length→vs[i *sz+k]? =some (.slice none 0 0)
 |[],vs,h,_,_=>⟨h,fun i hi=>by simp at hi⟩
 |x::xs,vs,⟨us,ws,e,h1,h2,h3⟩,hall,hk=>by
  subst e;simp only [gU,aF] at hall;have hx:=yM hall.1;obtain ⟨r1,r2⟩:=vw h3 hall.2 hk;obtain ⟨v,hv,hr⟩:=sJ h1.1 hx;subst hr;refine ⟨⟨us,ws,rfl,⟨JH h1.1 hv (by simp [rep,Value.oneCell',Value.cells]),h1.2⟩,h2,r1⟩,fun i hi=> ?_⟩;cases i with
  |zero=>grind
  |succ i=>
   rw [gr (by grind),show (i+1) *sz+k-us.length=i *sz+k by grind];simp_all
theorem KR {o:Oper} {t:TypeId} {len:Nat} {parts:Array (Nat×Operand)} {d e s k e' s':Nat} {xs:List (List AV)} (hR:Rel N w0 μ0 L μ loc st a w) (hd:d<N) (dc:o.dst=some d) (ho:o.op= .buildSlice t len parts)
  (h:kM P t len parts.toList st=some (e,s,xs)) (hk:k<s) (hall:xs.all (qz k)=true) (hK:nk N w0 μ0 L ((st.new d (.rn e s k e' s' (xs.map fun c=>c.set k .hole) (xs.map fun _=>some []))).set (some d) (.row d)) K):o.uM P a w K Q:=by
 obtain ⟨vs,hr,hrc,hxl,hml,hpos⟩:=Nb hR h;obtain ⟨I4,IZ⟩:=vw hrc hall hk;refine gO (v:= .slice (some ⟨w.heap.size,0,none⟩) len len) (w':=w.alloc (.cells vs.toArray e)) (by simp_all [execOp]) ?_;rw [dc];have hown:(w.alloc (.cells vs.toArray e)).ownsRow 0 e s _ _ _:=
  ⟨by rw [dr hrc,hxl], .inr ⟨_,_,_,rfl,dh _,s7 w _,by omega,hml,by grind [dr],by rw [←hxl,←dr hrc];simp⟩⟩
 refine hK _ _ _ _ (hR.made' (val:= .tuple (.slice _ _ _::xs.map fun _=> .slice none 0 0).toArray) hd (fun g hg=> ?_) ?_ (rowS' rfl))
 ·rcases jZ.1 hg with hg|⟨u,hu,hg⟩
  ·simp_all [bu]
  ·obtain ⟨c,_,rfl⟩:=aB.1 hu;simp [bu] at hg
 ·refine ⟨_,_,vs,cv _ _ _,fun q hq=> ?_,by simp_all,I4,⟨hk,fun c hc=> ?_⟩,by simp,by simp,fun i zs hi=> ?_,fun i hi=> ?_,fun u hu g hg=> ?_,fun i j u v hu hv hij g hg=> ?_⟩
  ·simp [bu] at hq;subst hq
   exact ⟨.inl hR.grown,vi hR _ (aS _)⟩
  ·obtain ⟨c',uB,rfl⟩:=aB.1 hc
   have:=yM (cg.1 hall _ uB)
   grind
  ·simp only [cZ,bS] at hi
   obtain ⟨c,hc,e1⟩:=hi;simp at e1;subst e1;exact ⟨_,[],by simp [hc],IZ i (bD.1 hc).1,⟨by simp, .inl ⟨rfl,rfl⟩⟩,rfl,fun g hg=>by simp [bu] at hg⟩
  ·simp_all
  ·obtain ⟨c,_,rfl⟩:=aB.1 hu;simp [bu] at hg
  ·simp at hu
   obtain ⟨c,_,rfl⟩:=hu;simp [bu] at hg
theorem Tj {o:Oper} {t:TypeId} {len:Nat} {parts:Array (Nat×Operand)} {e s:Nat} {xs:List (List AV)} (hR:Rel N w0 μ0 L μ loc st a w) (hd:∀i,o.dst=some i→i<N) (ho:o.op= .buildSlice t len parts)
  (h:kM P t len parts.toList st=some (e,s,xs)) (hK:nk N w0 μ0 L (st.set o.dst (.pv (.eH s xs))) K):o.uM P a w K Q:=by
 obtain ⟨vs,hr,hrc,hxl,hml,hpos⟩:=Nb hR h;refine gO (v:= .slice (some ⟨w.heap.size,0,none⟩) len len) (w':=w.alloc (.cells vs.toArray e)) (by simp_all [execOp]) ?_
 let μ' :=fun b j=>if b=w.heap.size then vs[j]? else μ b j
 have hnone:=vi hR;have hle:μ.le μ':=fun b j v hv=>by
  grind
 have h1:=hR.grow (w':=w.alloc (.cells vs.toArray e)) ⟨hle,fun b j v hv=>by
   grind⟩ (fun b j v hv=>by
   by_cases hb:b=w.heap.size
   ·subst hb
    have KY :=by simpa [μ'] using hv
    exact tE (by simp [KY]) (lX hrc v (aT KY))
   ·have KY :=by simpa [μ',hb] using hv
    exact hR.Rp (qL w _) b j v KY) (qL w _)
 refine hK _ _ _ _ (h1.set hd ?_);show rep _ _ _;rw [rep]
 grind [tV]
theorem ZK {o:Oper} {t:TypeId} {l c:Operand} {d e s:Nat} {kl kc:IntKind} {nl nc:Int} {z:List AV} {i:TypeInfo} (hR:Rel N w0 μ0 L μ loc st a w) (hd:d<N) (dc:o.dst=some d) (ho:o.op= .makeSlice t l c)
  (hs:isSlice P t=some (e,s)) (hl:(bq P 0 st l).bind iW =some (.int kl nl)) (hc:(bq P 0 st c).bind iW =some (.int kc nc)) (hz:zeroCells P e=some z) (hi:P.info? e=some i)
  (fU:0<s∧z.length=s∧0≤nl∧nl≤nc∧i.bytes *nc.toNat≤281474976710656∧nc≤9223372036854775807)
  (hK:nk N w0 μ0 L ((st.new d (.row e s (replicate nl.toNat z))).set (some d) (.row d)) K):o.uM P a w K Q:=by
 obtain ⟨hpos,hzl,h0,hlc,hby,h63⟩:=fU;obtain ⟨hu,inf,nE,hsz⟩:=gA hs;rw [nE] at hi;injection hi with hi;subst hi
 obtain ⟨i',v,hi',hv,hcz⟩:=qx (μ:=μ) hz;rw [nE] at hi';injection hi' with hi';subst hi'
 have hzc :=by have:=hcz.length;simpa [hzl] using this
 have hlv:=fC hR hl;have hcv:=fC hR hc;rw [rep] at hlv hcv;have hby' :=by
  have e1:((inf.bytes *nc.toNat:Nat):Int)≤281474976710656:=by omega
  rw [Int.natCast_mul,Int.toNat_of_nonneg (by omega)] at e1;exact e1
 have hr:=run_make w t e _ v hu nE hv kl kc _ _ h0 hlc hby' h63;refine gO (v:= .slice (some ⟨w.heap.size,0,none⟩) nl.toNat nc.toNat) (w':=w.alloc (.cells (madeCells v.cells (nc.toNat *inf.size)) e)) (by simp_all [execOp]) ?_;rw [dc];refine hK _ _ _ _ (hR.made hd (by simp [jH,bu]) ?_ (JM rfl));have hrc:=qI hcz (by omega) nl.toNat;refine ⟨_,⟨dr hrc, .inr ⟨_,nc.toNat,_,?_,dh _,s7 w _,?_,?_,?_,?_⟩⟩,hrc,fun g hg=> ?_⟩
 ·rw [cv];simp
 ·simp;omega
 ·simp [maxLen];omega
 ·rw [size_madeCells,hsz]
 ·grind [uE,OZ,Array.length_toList]
 ·rw [cv] at hg
  simp [jH,bu] at hg;subst hg;exact ⟨.inl hR.grown,vi hR _ (aS _)⟩
theorem eff_nil {o:Oper} {d e s:Nat} (hR:Rel N w0 μ0 L μ loc st a w) (hd:d<N) (dc:o.dst=some d) (ho:o.op= .assign (.const (.slice none 0 0)))
  (hK:nk N w0 μ0 L ((st.new d (.row e s [])).set (some d) (.row d)) K):o.uM P a w K Q:=by
 refine gO (v:= .slice _ 0 0) (by unfold execOp;rw [ho];rfl) ?_;rw [dc];refine hK _ _ _ _ ((hR.new (.inl (eX hd hR.small)) ?_ (fun j oj hj hne g hg=>by simp [jH,bu] at hg)).set (fun i hi=>by simp_all) (JM rfl));refine ⟨[],⟨by simp, .inl ⟨cv _ _ _,rfl⟩⟩,rfl,fun g hg=> ?_⟩;simp_all [cv,jH,bu]
theorem JO {t e ty:TypeId} {inf:TypeInfo} {v:Value} (hu:P.underlying t=some (.slice e)) (nE:P.info? e=some inf) (hv:inf.zero=some v) {ad:Addr} {n c:Nat} (hn:0<n) {w':World} (hsc:(storeCells ad (Builtin.zeroCells v.cells n).toList).run P w= .ok () w'):
  (Builtin.clear_ #[t] ty #[.slice (some ad) n c]).run P w= .ok (.tuple #[]) w':=by
 obtain ⟨k,rfl⟩:∃k,n=k+1:=⟨n-1,by omega⟩
 simp_all [Builtin.clear_,bz,zeroValue,typeInfo]
theorem Xq {o:Oper} {c:Call} {t e e':TypeId} {s id sz sz' lo hi:Nat} {x:Operand} {xs:List (List AV)} {z:List AV} (hR:Rel N w0 μ0 L μ loc st a w) (dc:o.dst=none) (ho:o.op= .call c) (hc:c.callee= .builtin .clear) (ha:c.args.toList=[x]) (ht:c.argTypes.toList=[t])
  (hs:isSlice P t=some (e,s)) (hx:bq P t st x=some (.sub id sz lo hi)) (dG:st.ob id=some (.row e' sz' xs)) (hz:zeroCells P e=some z) (fU:s=sz∧sz=sz'∧z.length=sz∧hi≤xs.length∧e=e'∧0<sz)
  (hK:nk N w0 μ0 L { st with ob:=put st.ob id (some (.row e' sz' (xs.take lo++replicate (hi-lo) z++xs.drop hi))) } K):o.uM P a w K Q:=by
 obtain ⟨rfl,rfl,hzl,hhi,rfl,hpos⟩:=fU;obtain ⟨callee,⟨args⟩,⟨argTypes⟩⟩:=c;simp only at hc ha ht;subst hc;subst ha;subst ht;obtain ⟨hu,inf,nE,hsz⟩:=gA hs;obtain ⟨A,n,cp,A',c',nQ,hlo,hhn,hcc,wM,_,hg⟩:=aU hR hx;obtain ⟨vs,hown,hrc,hm⟩:=hR.obs id _ dG;by_cases hlt:lo<hi
 ·obtain ⟨g,rfl,rfl⟩:=hg hlt
  obtain ⟨cap,cur,hloc',hheap,hnc,hcm,hcs,Aa⟩:∃cap cur,loc id= .slice (some ⟨g,0,none⟩) xs.length cap∧w.heap[g]? =some (.cells cur e (0,0))∧xs.length≤cap∧cap≤maxLen∧cur.size=cap *s∧cur.toList.take (xs.length *s)=vs:=by
   rcases hown.2 with ⟨_,e2⟩|⟨g',cap,cur,e1,_,h2,h3,h4,h5,h6⟩
   ·omega
   simp_all
  obtain ⟨i',v,hi',hv,hcz⟩:=qx (μ:=μ) hz;rw [nE] at hi';injection hi' with hi';subst hi'
  have hzc:v.cells.size=s:=by have:=hcz.length;simpa [hzl] using this
  have hzs:(Builtin.zeroCells v.cells (hi-lo)).toList=(replicate (hi-lo) v.cells.toList).flatten:=by
   rw [←uE v.cells s hzc hpos (hi-lo)];simp [Builtin.zeroCells,madeCells,hzc]
  have hrz:=qI (sz:=s) hcz (by omega) (hi-lo);have Hj:((replicate (hi-lo) v.cells.toList).flatten).length=(hi-lo) *s:=by have:=dr hrz;simpa using this
  have hvl:=dr hrc;have GR:xs.length *s≤cur.size:=by rw [hcs];exact lN _ hnc
  have hmul:lo *s+(hi-lo) *s=hi *s:=by rw [←jl];congr 1;omega
  have hhis:hi *s≤xs.length *s:=lN _ hhi;have hsc:=vJ P g (lo *s) e (replicate (hi-lo) v.cells.toList).flatten 0 cur w hheap (by omega) (lX hrz);simp only [oC,Hj] at hsc;have I4:=nU (nU (sX hrc lo) hrz) (BP hrc hi);have hxl':(xs.take lo++replicate (hi-lo) z++xs.drop hi).length=xs.length:=by simp;omega
  have hrun:=JO (P:=P) (ty:=o.type) (c:=c') (n:=hi-lo) hu nE hv (by omega) (by rw [hzs];omega)
  refine gO (v:= .tuple #[]) (w':=w.setRow g (cur.toList.take (lo *s)++(replicate (hi-lo) v.cells.toList).flatten++cur.toList.drop (lo *s+(hi-lo) *s)).toArray) (by
   simp_all [execOp,resolve,invoke,builtin,fQ,kC,gC,List.map_toArray,aP,dV]) ?_
  rw [dc];refine hK _ _ _ _ (hR.write dG (g:=g) (by rw [nQ];exact iC.2 rfl) (fun k hk=>vK w g k _ hk) rfl rfl rfl (by simp) ?_);refine ⟨_,⟨?_, .inr ⟨g,cap,_,?_,dh _,zO w g cur _ e _ hheap,?_,hcm,?_,?_⟩⟩,I4,fun g' hg'=>hm g' hg'⟩
  ·grind
  ·simp_all
  ·omega
  ·grind
  grind [Nat.mul_le_mul_right,Nat.min_eq_left,List.drop_take,replicate,List.length_append,List.length_take,List.take,List.drop,List.take_append,List.take_of_length_le]
 ·have h0:hi-lo=0:=by omega
  have e0:xs.take lo++replicate (hi-lo) z++xs.drop hi=xs:=by
   rw [show lo=hi from by omega];simp
  rw [e0] at hK
  refine gO (v:= .tuple #[]) (w':=w) (by
   unfold execOp;rw [ho];simp [resolve,invoke,builtin,wM,h0,Builtin.clear_,bz hu]
   cases A'<;>simp) ?_
  rw [dc];refine hK _ _ μ loc ?_;have:put st.ob id (some (.row e s xs))=st.ob:=by
   funext i
   by_cases e:id=i
   ·subst e;rw [cu,dG]
   ·rw [bl _ _ e]
  rw [this];exact hR
theorem II {o:Oper} {t:TypeId} {x y:Operand} {sa sv:SV} (hR:Rel N w0 μ0 L μ loc st a w) (dc:o.dst=none) (ho:o.op= .store t x y)
  (YR:gy μ loc sa (a.eval x)) (Hl:gy μ loc sv (a.eval y)) (h:storeAt P t st sa sv=some st') (hK:nk N w0 μ0 L st' K):o.uM P a w K Q:=by
 have fin:∀(ad:Addr) (w':World),a.eval x= .pointer (some ad)→(storeVar t ad (a.eval y)).run P w= .ok () w'→Rel N w0 μ0 L μ loc st' a w'→o.uM P a w K Q:=fun ad w' e hr z6=>by
  refine EE (w':=w') ?_ (by rw [dc];exact hK _ _ _ _ z6);simp_all [execOp,Instr.storeAt,Instr.sureAddr,fQ,kC,gC]
 unfold storeAt at h;split at h
 ·rename_i id off
  obtain ⟨b,hl,YR⟩:=YR;split at h
  ·rename_i bt cells n dG hsz
   obtain ⟨b',vs,hl',hnF,hheap,tR,hss,h1⟩:=hR.obs id _ dG;rw [hl] at hl';simp only [zG,aG,zH,fO] at hl';subst hl';have hlen:=pY hss;have fin2:∀(us:List Value) (sus:List SV),(a.eval y).cells.toList=us→us.length=n→off+n≤vs.length→(∀u∈us,u.oneCell'=true)→iQ μ loc sus us→
     st'={ st with ob:=put st.ob id (some (.box bt (cells.take off++sus++cells.drop (off+n)))) }→o.uM P a w K Q:=by
    intro us sus qW Hj hle hone hsus hst;have hsc:=vJ P b off bt us 0 vs.toArray w hheap (by simp;omega) hone;simp only [oC] at hsc
    refine fin ⟨b,off,none⟩ _ YR (by
     have:(a.eval y).cells.size=n:=by rw [←Hj,←qW];simp
     simp only [storeVar,fQ,kI hsz,gC,this,ne_eq,qK,ez,kC,qW]
     omega) ?_
    rw [hst];refine hR.write dG (g:=b) (by rw [hl];exact qy.2 rfl) (fun k hk=>vK w b k _ hk) rfl rfl rfl (by simp) ?_;refine ⟨b,vs.take off++us++vs.drop (off+n),hl,hnF,?_,tR,?_,?_⟩
    ·grind [setRow_heap]
    ·grind [pX,CC,CB]
    ·grind
   split at h
   ·rename_i cs
    split at h
    ·rename_i fU
     injection h with h
     obtain ⟨us,e,hall,hone⟩:=Hl;have hs:=sA hall;exact fin2 us (cs.map IC) (by rw [e];rfl) (by grind [pY,List.length_map]) (by omega) hone hs h.symm
    grind
   ·rename_i cs
    split at h
    ·rename_i fU
     injection h with h
     have Qr:=Hl;simp only [gy,rep] at Qr;obtain ⟨us,e,hall,hone⟩:=Qr;exact fin2 us (cs.map .pv) (by rw [e];rfl) (by grind [n9]) (by omega) hone (rS hall) h.symm
    grind
   ·split at h
    ·rename_i fU
     injection h with h
     obtain ⟨ho1,hc1⟩:=Uk hR fU.2.2 Hl;refine fin2 [a.eval y] [sv] (by rw [hc1]) (by simp_all) (by omega) (by simp_all) ⟨_,[],rfl,Hl,rfl⟩ ?_;simp_all [FO,au]
    grind
  grind
 ·rename_i id sz i off
  obtain ⟨g,n',cp,hl,YR⟩:=YR;split at h
  ·rename_i e sz' xs n v dG hsz
   split at h
   ·rename_i c hg
    split at h
    ·rename_i fU
     obtain ⟨rfl,hvl,hle,hnt⟩:=fU;injection h with h
     rw [jf (hR.obs id _ dG)] at hl;obtain ⟨vs,hown,hrc,hm⟩:=hR.obs id _ dG;have hil:i<xs.length:=(bD.1 hg).1;obtain ⟨cap,cur,nQ,hheap,hnc,hcm,hcs,Aa⟩:∃cap cur,loc id= .slice (some ⟨g,0,none⟩) xs.length cap∧w.heap[g]? =some (.cells cur e (0,0))∧xs.length≤cap∧cap≤maxLen∧cur.size=cap *sz∧cur.toList.take (xs.length *sz)=vs:=by
      rcases hown.2 with ⟨_,e2⟩|⟨g',cap,cur,e1,_,h2,h3,h4,h5,h6⟩
      ·omega
      simp_all
     have hyc:ku μ v.cells (a.eval y).cells.toList:=LU (show rep μ v (a.eval y) from Hl) (fun z e=>by rw [e] at hnt;cases hnt);have Hj:(a.eval y).cells.toList.length=n:=by rw [hyc.length];exact hvl
     have key:∀(xs:List (List AV)) (vs:List Value) (i:Nat) (c:List AV),c4 μ sz xs vs→xs[i]? =some c→off+n≤c.length→
       c4 μ sz (xs.set i (c.take off++v.cells++c.drop (off+n))) (vs.take (i *sz+off)++(a.eval y).cells.toList++vs.drop (i *sz+off+n))∧i *sz+off+n≤vs.length:=by
      intro xs
      induction xs with
      |nil=>simp
      |cons x xs ih=>
       intro vs i c hrc hx hle;obtain ⟨us,ws,rfl,k1,k2,k3⟩:=hrc;cases i with
       |zero=>
        simp at hx;subst hx;have hxl:=k1.length;refine ⟨?_,by simp;omega⟩;refine ⟨us.take off++(a.eval y).cells.toList++us.drop (off+n),ws,?_,((k1.take off).append hyc).append (k1.drop (off+n)),?_,k3⟩
        ·grind
        grind
       |succ i=>
        simp at hx;obtain ⟨r1,r2⟩:=ih ws i c k3 hx hle;refine ⟨?_,by grind⟩;refine ⟨us,ws.take (i *sz+off)++(a.eval y).cells.toList++ws.drop (i *sz+off+n),?_,k1,k2,r1⟩
        rw [show (i+1) *sz+off=us.length+(i *sz+off) from by grind,FH,
         show us.length+(i *sz+off)+n=us.length+(i *sz+off+n) from by omega,FI]
        simp
     obtain ⟨I4,hle'⟩:=key xs vs i c hrc hg hle;have hvl':=dr hrc;have GR:xs.length *sz≤cur.size:=by rw [hcs];exact lN _ hnc
     have hsc:=vJ P g (i *sz+off) e _ 0 _ w hheap (by omega) hyc.2;simp only [Hj] at hsc
     refine fin _ _ YR (by
      have :=by simpa using Hj
      simp [storeVar,fQ,kI hsz,gC,this,ne_eq,qK,ez]
      omega) ?_
     rw [←h];refine hR.write dG (by rw [hl];exact iC.2 rfl) (fun k hk=>vK w g k _ hk) rfl rfl rfl (by simp) ?_;refine ⟨_,⟨?_, .inr ⟨g,_,_,?_,dh _,zO w g _ _ e _ hheap,?_,hcm,?_,?_⟩⟩,I4,fun g' hg'=>hm _ hg'⟩
     ·grind
     ·simp_all
     ·simp_all
     ·grind
     ·rw [show vs.take _=cur.toList.take (i *sz+off) from by grind,
       show vs.drop _=(cur.toList.drop _).take _ from by rw [←Aa,FJ]]
      rw [List.take_append,jm (by grind)]
      congr 2
      grind
    grind
   grind
  grind
 grind
theorem Xv {o:Oper} {t:TypeId} {x y:Operand} {sa sv:SV} (hR:Rel N w0 μ0 L μ loc st a w) (dc:o.dst=none) (ho:o.op= .store t x y)
  (hx:bq P 0 st x=some sa) (hy:bq P t st y=some sv) (h:storeAt P t st sa sv=some st') (hK:nk N w0 μ0 L st' K):o.uM P a w K Q:=
 II hR dc ho (aU hR hx) (aU hR hy) h hK
theorem PL {o:Oper} {t:TypeId} {x y:Operand} {id off j sz n:Nat} (hR:Rel N w0 μ0 L μ loc st a w) (dc:o.dst=none) (ho:o.op= .store t x y) (hx:bq P 0 st x=some (.ptr id off)) (hy:bq P t st y=some (.sub j sz 0 n))
  (h:Vh P st t id off j sz n=some st') (hK:nk N w0 μ0 L st' K):o.uM P a w K Q:=by
 unfold Vh at h;split at h
 ·rename_i e sz' xs dG
  cases hb:(Nat.beq sz sz'&&iT j&& !(Nat.beq id j)) with
  |false=>simp_all
  |true=>
  rw [hb] at h;simp at h;simp only [aF] at hb;obtain ⟨⟨b1,b2⟩,b3⟩:=hb;have c1:=beq_iff.1 b1;subst c1;have hne:id≠j:=fun e=>by simp_all
  have YR:=aU hR hx;obtain ⟨A,m,c,A',c',hl,_,hnm,_,hu,h0,_⟩:=aU hR hy;obtain ⟨rfl,rfl⟩:=h0 rfl;have hid:j<10000∨20000≤j:=by
   simp [iT,eY] at b2;rcases b2 with hm|hm<;>simp_all
  obtain ⟨us,hown,hrc,hm⟩:=hR.obs j _ dG;have hml:m=xs.length:=by
   rcases hown.2 with ⟨e1,e2⟩|⟨q,cap,cur,e1,_⟩<;>simp_all
  have hblk:∀q,jH (.slice A' n c') q↔jH (loc j) q:=fun q=>by rw [hl,iC,iC];cases A'<;>rfl
  have h2:=hR.new (o:= .row e sz (xs.take n)) hid ?_ (fun k ok hk hkj q hq=>hR.apart j k _ _ dG hk (cR hkj) q ((hblk q).1 hq))
  ·refine II h2 dc ho ?_ ?_ h hK
   ·obtain ⟨b,k1,k2⟩:=YR
    exact ⟨b,by simp_all [cE],k2⟩
   ·show a.eval y=fM _
    rw [cv,hu];rfl
  ·have MW:=sX hrc n
   refine ⟨_,⟨by rw [dr MW],?_⟩,MW,fun q hq=> ?_⟩
   ·rw [cv]
    rcases hown.2 with ⟨e1,e2⟩|⟨q,cap,cur,e1,k1,k2,k3,k4,k5,k6⟩
    ·simp_all
    grind [Nat.mul_le_mul_right]
   simp_all [cv]
 grind
theorem zu (t ty e:TypeId) (i:TypeInfo) (ht:P.underlying t=some (.slice e)) (hi:P.info? e=some i) (v:Value) (n:Nat) (xs:List Value) (size:Nat) (hown:w.ownsRow 0 e size v n xs) (c:Nat):
  (Builtin.append_ #[t,t] ty #[v, .slice none 0 c]).run P w= .ok v w:=by
 rcases hown.2 with ⟨rfl,rfl⟩|⟨g,cap,cur,rfl,_,_,hnc,_⟩
 ·simp [Builtin.append_,bz ht,sizeOf,typeInfo,hi,Builtin.lenOf,Builtin.firstCells]
 ·simp [Builtin.append_,bz ht,sizeOf,typeInfo,hi,Builtin.lenOf,Builtin.firstCells,hnc,storeCells]
theorem S7 {o:Oper} {x y:Operand} {t e:TypeId} {d sz id:Nat} {sy:SV} {xs ys:List (List AV)} {i:TypeInfo} (hR:Rel N w0 μ0 L μ loc st a w) (hd:d<N) (dc:o.dst=some d)
  (ho:o.op= .call { callee:= .builtin .append,args:= #[x,y],argTypes:= #[t,t] }) (hs:isSlice P t=some (e,sz)) (hx:bq P t st x=some (.row id)) (hy:bq P t st y=some sy)
  (dG:st.ob id=some (.row e sz xs)) (hel:elems st sy=some (sz,ys)) (hi:P.info? e=some i) (hpos:0<sz) (hby:(xs.length+ys.length) *i.bytes≤140737488355328) (hlen:xs.length+ys.length≤4611686018427387904)
  (hz:i.zero.map (fun z=>z.cells.size)=some sz) (hid:id<10000∨20000≤id) (hK:nk N w0 μ0 L ((st.new id (.row e sz (xs++ys))).set (some d) (.row id)) K):o.uM P a w K Q:=by
 obtain ⟨hu,inf,nE,hsz⟩:=gA hs;rw [nE] at hi;injection hi with hi;subst hi
 obtain ⟨z,XS,hzs⟩:∃z,inf.zero=some z∧z.cells.size=sz:=by
  simp_all
 have wM:a.eval x=loc id:=(aU hR hx:a.eval x=fM (loc id)).trans (jf (hR.obs id _ dG));have Hl:=aU hR hy;obtain ⟨vs,hown,hrc,hm⟩:=hR.obs id _ dG;obtain ⟨A,c,Qr,us,qW,hsrc⟩:=tn hR hel Hl;have Hj:=dr qW;obtain ⟨v',w',hrun,DQ,hgrow,hblk⟩:∃v' w',(Builtin.append_ #[t,t] o.type #[loc id, .slice A ys.length c]).run P w= .ok v' w'∧w'.ownsRow 0 e sz v' (xs.length+ys.length) (vs++us)∧w.grownBy w' (loc id).ownBlock∧
   (v'.ownBlock=(loc id).ownBlock∨v'.ownBlock=some w.heap.size):=by
  cases A with
  |none=>
   have h0:ys.length=0:=by
    rcases hsrc with h0|⟨ad,h,_⟩
    ·exact h0
    ·cases h
   have E1:us=[]:=lJ (by simp_all);subst E1;rw [h0];exact ⟨loc id,w,zu t o.type e inf hu nE (loc id) _ vs sz hown c,by simp_all,⟨rfl,rfl,rfl,aS _,fun _ _ _=>rfl⟩, .inl rfl⟩
  |some ad=>
   have hcells:∀j u,us[j]? =some u→w.cell? (ad.add j)=some u:=by
    rcases hsrc with h0|⟨ad',h,hc⟩<;>simp_all
   obtain ⟨v',w',h1,h2,h3,_,h5⟩:=run_append_own_at (P:=P) w 0 t o.type e inf z sz inf.bytes hu nE XS hsz rfl hzs hpos (loc id) xs.length vs hown ad ys.length c us Hj hcells (lX qW) (by simp only [maxLen];omega) hby (dh _)
   grind
 have hbo:∀v:Value,(∃A n c,v= .slice A n c)→v.ownBlock=bu v:=by
  rintro v ⟨A,n,c,rfl⟩;cases A<;>rfl
 have nQ:∃A n c,loc id= .slice A n c:=by
  rcases hown.2 with ⟨e1,_⟩|⟨g,cap,cur,e1,_⟩<;>simp_all
 have KY:∃A n c,v'= .slice A n c:=by
  rcases DQ.2 with ⟨e1,_⟩|⟨g,cap,cur,e1,_⟩<;>simp_all
 rw [hbo _ nQ] at hgrow hblk;rw [hbo _ KY] at hblk;have hok:=hR.obs id _ dG;refine gO (v:=v') (w':=w') (by simp_all [execOp,resolve,invoke,builtin]) ?_;rw [dc]
 have h1:=(hR.drop id).world (w':=w') (Mu.le.refl _) (fun _ _ _ h=> .inl h) (fun b j v h=>by
   have hc:=hR.uI b j v h;have hlt:=mq hc;have hne:some b≠bu (loc id):=fun e=>by have:=(hok.block b (.inl e.symm)).2.2 j;simp_all
   rw [fZ (hgrow.block b hlt hne)];omega) (fun k ok hk b hb=>by
   by_cases e':id=k
   ·simp_all [cu]
   ·simp only [bl _ _ e'] at hk
    obtain ⟨_,hlt,tR⟩:=(hR.obs k ok hk).block b hb;have hne:some b≠bu (loc id):=fun e=>hR.apart id k _ ok dG hk e' b (.inl e.symm) hb
    exact ⟨hgrow.block b hlt hne,tR⟩) (fun b hb hl=>by
   refine hgrow.block b (eX hb hR.grown) (fun e=> ?_);rcases (hok.block b (.inl e.symm)).1 with h|⟨v,hv,h⟩
   ·omega
   ·exact hl ⟨id,v,hv,h⟩) hgrow.os hgrow.tape hgrow.output hgrow.size (fun _=>Fo hrun)
 have h2:=h1.new (val:=v') (o:= .row e _ _) hid (by
   refine ⟨_,?_,nU hrc qW,fun g hg=> ?_⟩
   ·simp_all [cv]
   ·rw [cv] at hg
    replace hg:bu v'=some g:=by obtain ⟨A',n',c',rfl⟩:=KY;exact iC.1 hg
    rcases hblk with hb|hb
    ·rw [hg] at hb
     have:=hok.block g (.inl hb.symm);simp_all
    ·rw [hg] at hb
     injection hb with hb
     subst hb
     exact ⟨.inl hR.grown,vi hR _ (aS _)⟩) (fun j oj hj hne g hg=>by
   have hj':st.ob j=some oj:=by
    by_cases e':id=j
    ·omega
    ·simp_all [bl]
   replace hg:bu v'=some g:=by obtain ⟨A',n',c',rfl⟩:=KY;exact iC.1 hg
   rcases hblk with hb|hb
   ·rw [hg] at hb
    exact hR.apart _ j _ _ dG hj' (fun e=>hne e.symm) g (.inl hb.symm)
   ·rw [hg] at hb
    injection hb with hb
    intro hbj;have:=((hR.obs j _ hj').block _ hbj).2.1
    omega)
 have heq:St.new { st with ob:=put st.ob id none } id (.row e sz (xs++ys))=St.new st id (.row e sz (xs++ys)):=by
  simp [St.new,St.dm]
  congr 1
  funext k
  by_cases e':id=k
  ·subst e';simp [cu]
  ·simp [bl _ _ e']
 rw [heq] at h2;exact hK _ _ _ _ (h2.set (fun i hi=>by simp_all) (JM (by obtain ⟨A',n',c',rfl⟩:=KY;rfl)))
theorem GY (w:World) (t ty e:TypeId) (i:TypeInfo) (z:Value) (size bytes:Nat) (ht:P.underlying t=some (.slice e)) (hi:P.info? e=some i) (hz:i.zero=some z)
  (hsize:i.size=size) (hby:i.bytes=bytes) (hzs:z.cells.size=size) (A:Option Addr) (n c0:Nat) (xs:List Value) (hown:w.ownsRow 0 e size (.slice A n c0) n xs)
  (a:Addr) (m c:Nat) (news:List Value) (hl:news.length=m *size) (hnews:∀j u,news[j]? =some u→w.cell? (a.add j)=some u) (h63:n+m≤maxLen) (hbytes:(n+m) *bytes≤140737488355328) (hm:0<m):
  ∃v' w',(Builtin.append_ #[t,t] ty #[.slice A n n, .slice (some a) m c]).run P w= .ok v' w'∧w'.ownsRow 0 e size v' (n+m) (xs++news)∧w.grownBy w' (Value.ownBlock (.slice A n c0))∧
   (v'.ownBlock=Value.ownBlock (.slice A n c0)∨v'.ownBlock=some w.heap.size):=by
 subst hsize hby;have hlen:(xs++news).length=(n+m) *i.size:=by rw [cQ,hown.1,hl,jl]
 have hge:=grownCap_ge w (n+m) n e;have hcm :=grownCap_le_maxLen w _ n e h63;have hsmall:n+m≤9223372036854775807:=by simp [maxLen] at h63;omega
 have key:∀row,(w.drew.alloc (.cells (xs.toArray++news.toArray++Builtin.zeroCells z.cells (grownCap w (n+m) n e-(n+m))) e)).ownsRow 0 e _ _ _ _∧
   w.grownBy (w.drew.alloc (.cells (xs.toArray++news.toArray++Builtin.zeroCells z.cells (grownCap w (n+m) n e-(n+m))) e)) row:=fun row=>by
  refine ⟨⟨hlen, .inr ⟨_,_,_,rfl,dh _,s7 _ _,hge,hcm,?_,?_⟩⟩,⟨rfl,rfl,rfl,by simp,fun k hk _=>heap_alloc_old _ _ k hk⟩⟩
  ·simp [Array.size_append,mY,size_zeroCells,hzs,hown.1,hl,←jl]
   simp_all
  grind
 rcases hown.2 with ⟨e1,e2⟩|⟨g,cap,cur,e1,_⟩
 ·have hx:xs=[]:=lJ (by simp_all)
  injection e1 with e1 _ _
  subst hx e2 e1;have hr:=run_append_nil w t ty e i z ht hi hz a m c _ hl hnews (by omega) (by omega) (by grind);have hgr:=key (Value.ownBlock (.slice none 0 c0));simp at hgr⊢;exact ⟨_,_,hr,hgr.1,hgr.2, .inr rfl⟩
 ·injection e1 with e1 _ _
  subst e1;have hr:=run_append_grow w t ty e i z ht hi hz _ n n _ hown.1 (hown.cells rfl) a m c _ hl hnews (by omega) (by omega) (growslice_fits (by omega) hbytes);exact ⟨_,_,hr,(key none).1,(key _).2, .inr rfl⟩
theorem PR {o:Oper} {x y:Operand} {t e:TypeId} {d sz id:Nat} {sy:SV} {xs ys:List (List AV)} {i:TypeInfo} (hR:Rel N w0 μ0 L μ loc st a w) (hd:d<N) (dc:o.dst=some d)
  (ho:o.op= .call { callee:= .builtin .append,args:= #[x,y],argTypes:= #[t,t] }) (hs:isSlice P t=some (e,sz)) (hx:bq P t st x=some (.at id .full)) (hy:bq P t st y=some sy)
  (dG:st.ob id=some (.row e sz xs)) (hel:elems st sy=some (sz,ys)) (hi:P.info? e=some i) (hpos:0<sz) (hby:(xs.length+ys.length) *i.bytes≤140737488355328) (hlen:xs.length+ys.length≤4611686018427387904)
  (hz:i.zero.map (fun z=>z.cells.size)=some sz) (hid:id<10000∨20000≤id) (hne:ys.isEmpty=false) (hK:nk N w0 μ0 L ((st.new id (.row e sz (xs++ys))).set (some d) (.row id)) K):o.uM P a w K Q:=by
 obtain ⟨hu,inf,nE,hsz⟩:=gA hs;rw [nE] at hi;injection hi with hi;subst hi
 obtain ⟨z,XS,hzs⟩:∃z,inf.zero=some z∧z.cells.size=sz:=by
  simp_all
 have Hl:=aU hR hy;obtain ⟨vs,hown,hrc,hm⟩:=hR.obs id _ dG;have hpos2:0<ys.length:=by cases ys with
  |nil=>simp at hne
  |cons y ys=>simp
 obtain ⟨A0,wM⟩:∃A0,a.eval x= .slice A0 xs.length xs.length∧∃c,loc id= .slice A0 xs.length c:=by
  obtain ⟨A0,n,c,e1,e2⟩:=aU hR hx;have hn:n=xs.length:=by
   rcases hown.2 with ⟨e3,e4⟩|⟨g,cap,cur,e3,_⟩<;>simp_all
  simp_all
 obtain ⟨wM,c0,hl0⟩:=wM;obtain ⟨A,c,Qr,us,qW,hsrc⟩:=tn hR hel Hl;have Hj:=dr qW;obtain ⟨v',w',hrun,DQ,hgrow,hblk⟩:∃v' w',(Builtin.append_ #[t,t] o.type #[.slice A0 xs.length xs.length, .slice A ys.length c]).run P w= .ok v' w'∧w'.ownsRow 0 e sz v' (xs.length+ys.length) (vs++us)∧w.grownBy w' (loc id).ownBlock∧
   (v'.ownBlock=(loc id).ownBlock∨v'.ownBlock=some w.heap.size):=by
  cases A with
  |none=>
   simp_all
  |some ad=>
   have hcells:∀j u,us[j]? =some u→w.cell? (ad.add j)=some u:=by
    rcases hsrc with h0|⟨ad',h,hc⟩
    ·omega
    ·simp_all
   rw [hl0] at hown⊢;obtain ⟨v',w',h1,h2,h3,h5⟩:=GY (P:=P) w t o.type e inf z sz inf.bytes hu nE XS hsz rfl hzs A0 xs.length c0 vs hown ad ys.length c us Hj hcells (by simp only [maxLen];omega) hby hpos2
   grind
 have hbo:∀v:Value,(∃A n c,v= .slice A n c)→v.ownBlock=bu v:=by
  rintro v ⟨A,n,c,rfl⟩;cases A<;>rfl
 have nQ:∃A n c,loc id= .slice A n c:=by
  rcases hown.2 with ⟨e1,_⟩|⟨g,cap,cur,e1,_⟩<;>simp_all
 have KY:∃A n c,v'= .slice A n c:=by
  rcases DQ.2 with ⟨e1,_⟩|⟨g,cap,cur,e1,_⟩
  ·omega
  ·simp_all
 rw [hbo _ nQ] at hgrow hblk;rw [hbo _ KY] at hblk;have hok:=hR.obs id _ dG;refine gO (v:=v') (w':=w') (by simp_all [execOp,resolve,invoke,builtin]) ?_;rw [dc]
 have h1:=(hR.drop id).world (w':=w') (Mu.le.refl _) (fun _ _ _ h=> .inl h) (fun b j v h=>by
   have hc:=hR.uI b j v h;have hlt:=mq hc;have hne:some b≠bu (loc id):=fun e=>by have:=(hok.block b (.inl e.symm)).2.2 j;simp_all
   rw [fZ (hgrow.block b hlt hne)];omega) (fun k ok hk b hb=>by
   by_cases e':id=k
   ·simp_all [cu]
   ·simp only [bl _ _ e'] at hk
    obtain ⟨_,hlt,tR⟩:=(hR.obs k ok hk).block b hb;have hne:some b≠bu (loc id):=fun e=>hR.apart id k _ ok dG hk e' b (.inl e.symm) hb
    exact ⟨hgrow.block b hlt hne,tR⟩) (fun b hb hl=>by
   refine hgrow.block b (eX hb hR.grown) (fun e=> ?_);rcases (hok.block b (.inl e.symm)).1 with h|⟨v,hv,h⟩
   ·omega
   ·exact hl ⟨id,v,hv,h⟩) hgrow.os hgrow.tape hgrow.output hgrow.size (fun _=>Fo hrun)
 have h2:=h1.new (val:=v') (o:= .row e _ _) hid (by
   refine ⟨_,?_,nU hrc qW,fun g hg=> ?_⟩
   ·simp_all [cv]
   ·rw [cv] at hg
    replace hg:bu v'=some g:=by obtain ⟨A',n',c',rfl⟩:=KY;exact iC.1 hg
    rcases hblk with hb|hb
    ·rw [hg] at hb
     have:=hok.block g (.inl hb.symm);simp_all
    ·rw [hg] at hb
     injection hb with hb
     subst hb
     exact ⟨.inl hR.grown,vi hR _ (aS _)⟩) (fun j oj hj hne g hg=>by
   have hj':st.ob j=some oj:=by
    by_cases e':id=j
    ·omega
    ·simp_all [bl]
   replace hg:bu v'=some g:=by obtain ⟨A',n',c',rfl⟩:=KY;exact iC.1 hg
   rcases hblk with hb|hb
   ·rw [hg] at hb
    exact hR.apart _ j _ _ dG hj' (fun e=>hne e.symm) g (.inl hb.symm)
   ·rw [hg] at hb
    injection hb with hb
    intro hbj;have:=((hR.obs j _ hj').block _ hbj).2.1
    omega)
 have heq:St.new { st with ob:=put st.ob id none } id (.row e sz (xs++ys))=St.new st id (.row e sz (xs++ys)):=by
  simp [St.new,St.dm]
  congr 1
  funext k
  by_cases e':id=k
  ·subst e';simp [cu]
  ·simp [bl _ _ e']
 rw [heq] at h2;exact hK _ _ _ _ (h2.set (fun i hi=>by simp_all) (JM (by obtain ⟨A',n',c',rfl⟩:=KY;rfl)))
theorem PS {o:Oper} {x y:Operand} {t e e2:TypeId} {d sz id k s2:Nat} {sy:SV} {xs ys:List (List AV)} {zs:List (Option (List (List AV)))} {i:TypeInfo} (hR:Rel N w0 μ0 L μ loc st a w) (hd:d<N) (dc:o.dst=some d)
  (ho:o.op= .call { callee:= .builtin .append,args:= #[x,y],argTypes:= #[t,t] }) (hs:isSlice P t=some (e,sz)) (hx:bq P t st x=some (.row id)) (hy:bq P t st y=some sy)
  (dG:st.ob id=some (.rn e sz k e2 s2 xs zs)) (hel:elems st sy=some (sz,ys)) (hi:P.info? e=some i) (hpos:0<sz) (hby:(xs.length+ys.length) *i.bytes≤140737488355328) (hlen:xs.length+ys.length≤4611686018427387904)
  (hz:i.zero.map (fun z=>z.cells.size)=some sz) (hid:id<10000∨20000≤id) (hall:ys.all (qz k)=true) (hK:nk N w0 μ0 L ((st.new id (.rn e sz k e2 s2 (xs++ys.map fun c=>c.set k .hole) (zs++ys.map fun _=>some []))).set (some d) (.row id)) K):o.uM P a w K Q:=by
 obtain ⟨hu,inf,nE,hsz⟩:=gA hs;rw [nE] at hi;injection hi with hi;subst hi
 obtain ⟨z,XS,hzs⟩:∃z,inf.zero=some z∧z.cells.size=sz:=by
  cases hzz:inf.zero with
  |none=>simp [hzz] at hz
  |some z=>simp [hzz] at hz;exact ⟨z,rfl,hz⟩
 obtain ⟨m,vu,vs,hl,hm,hown,hrc,hk,h2,h3,h4,h5,h6,h7⟩:=hR.obs id _ dG;have wM:a.eval x=m:=(aU hR hx:a.eval x=fM (loc id)).trans (by rw [hl];rfl);have Hl:=aU hR hy;obtain ⟨A,c,Qr,us,qW,hsrc⟩:=tn hR hel Hl;have Hj:=dr qW;obtain ⟨hus',IZ⟩:=vw qW hall hk.1;obtain ⟨v',w',hrun,DQ,hgrow,hblk⟩:∃v' w',(Builtin.append_ #[t,t] o.type #[m, .slice A ys.length c]).run P w= .ok v' w'∧w'.ownsRow 0 e sz v' (xs.length+ys.length) (vs++us)∧w.grownBy w' m.ownBlock∧
   (v'.ownBlock=m.ownBlock∨v'.ownBlock=some w.heap.size):=by
  cases A with
  |none=>
   have h0:ys.length=0:=by
    rcases hsrc with h0|⟨ad,h,_⟩
    ·exact h0
    ·cases h
   have E1:us=[]:=lJ (by rw [Hj,h0];simp);subst E1;rw [h0];exact ⟨m,w,zu t o.type e inf hu nE m _ vs sz hown c,by simpa using hown,⟨rfl,rfl,rfl,aS _,fun _ _ _=>rfl⟩, .inl rfl⟩
  |some ad=>
   have hcells:∀j u,us[j]? =some u→w.cell? (ad.add j)=some u:=by
    rcases hsrc with h0|⟨ad',h,hc⟩
    ·have E1:us=[]:=lJ (by rw [Hj,h0];simp)
     subst E1;intro j u hu;simp at hu
    ·injection h with h;subst h;exact hc
   obtain ⟨v',w',h1,h2,h3,_,h5⟩:=run_append_own_at (P:=P) w 0 t o.type e inf z sz inf.bytes hu nE XS hsz rfl hzs hpos m xs.length vs hown ad ys.length c us Hj hcells (lX qW) (by simp only [maxLen];omega) hby (dh _);exact ⟨v',w',h1,h2,h3,h5⟩
 have hbo:∀v:Value,(∃A n c,v= .slice A n c)→v.ownBlock=bu v:=by
  rintro v ⟨A,n,c,rfl⟩;cases A<;>rfl
 have DR:∀{w:World} {v:Value} {n:Nat} {cs:List Value} {e s:Nat},w.ownsRow 0 e s v n cs→∃A n c,v= .slice A n c:=fun ho=>by
  rcases ho.2 with ⟨e1,_⟩|⟨g,cap,cur,e1,_⟩<;>exact ⟨_,_,_,e1⟩
 have vB:=DR hown;have KY:=DR DQ;rw [hbo _ vB] at hgrow hblk;rw [hbo _ KY] at hblk;have hok:=hR.obs id _ dG;have hinm:∀g,bu m=some g→jH (loc id) g:=fun g hg=>by rw [hl];exact jZ.2 (.inl hg)
 have hinu:∀u∈vu,∀g,bu u=some g→jH (loc id) g:=fun u hu g hg=>by rw [hl];exact jZ.2 (.inr ⟨u,hu,hg⟩)
 refine gO (v:=v') (w':=w') (by unfold execOp;rw [ho];simp [resolve,invoke,builtin,wM,Qr,hrun]) ?_;rw [dc]
 have h1:=(hR.drop id).world (w':=w') (Mu.le.refl _) (fun _ _ _ h=> .inl h) (fun b j v h=>by
   have hc:=hR.uI b j v h;have hlt:=mq hc;have hne:some b≠bu m:=fun e=>by have:=(hm b e.symm).2 j;rw [this] at h;cases h
   rw [fZ (hgrow.block b hlt hne)];omega) (fun k ok hk b hb=>by
   by_cases e':id=k
   ·subst e';simp [cu] at hk
   ·simp only [bl _ _ e'] at hk
    obtain ⟨_,hlt,tR⟩:=(hR.obs k ok hk).block b hb;have hne:some b≠bu m:=fun e=>hR.apart id k _ ok dG hk e' b (hinm b e.symm) hb
    exact ⟨hgrow.block b hlt hne,tR⟩) (fun b hb hl'=>by
   refine hgrow.block b (eX hb hR.grown) (fun e=> ?_);rcases (hm b e.symm).1 with h|⟨v,hv,h⟩
   ·omega
   ·exact hl' ⟨id,v,hv,h⟩) hgrow.os hgrow.tape hgrow.output hgrow.size (fun _=>Fo hrun)
 have hvl:=dr hrc;have mem:∀u∈vu++ys.map (fun _=>(.slice none 0 0:Value)),u∈vu∨u= .slice none 0 0:=fun u hu=>by
  rcases bC.1 hu with hu|hu
  ·exact .inl hu
  ·obtain ⟨c,_,rfl⟩:=aB.1 hu;exact .inr rfl
 have hvg:∀g,bu v'=some g→(bu m=some g)∨g=w.heap.size:=fun g hg=>by
  grind
 have KH:=h1.new (id:=id) (val:= .tuple (v'::(vu++ys.map fun _=>(.slice none 0 0:Value))).toArray) (o:= .rn e sz k e2 s2 (xs++ys.map fun c=>c.set k .hole) (zs++ys.map fun _=>some [])) hid (by
   refine ⟨v',_,vs++us,cv _ _ _,fun g hg=> ?_,by rw [cQ,aW];exact DQ,nU hrc hus',⟨hk.1,fun c hc=> ?_⟩,by simp [h2],by simp [h3],fun i zs' hi=> ?_,fun i hi=> ?_,fun u hu g hg hgv=> ?_,fun i j u v hu hv hij g hg hg'=> ?_⟩
   ·rcases hvg g hg with hb|rfl
    ·exact ⟨(hm g hb).1,(hm g hb).2⟩
    ·exact ⟨.inl hR.grown,vi hR _ (aS _)⟩
   ·rcases bC.1 hc with hc|hc
    ·exact hk.2 c hc
    ·obtain ⟨c',uB,rfl⟩:=aB.1 hc
     have:=yM (cg.1 hall c' uB);rw [lQ (bD.1 this).1]
   ·by_cases hil:i<zs.length
    ·rw [di hil] at hi
     obtain ⟨u,cells,k1,k2,k3,k4,k5⟩:=h4 i zs' hi;refine ⟨u,cells,by rw [di (by omega)];exact k1,by rw [di (bD.1 k2).1];exact k2,lW k3 (fun g hg=> ?_),k4,k5⟩;exact hgrow.block g (sS k3 hg) (fun e=>h6 u (aT k1) g hg e.symm)
    ·rw [gr (by omega)] at hi
     simp only [cZ,bS] at hi;obtain ⟨c,hc,e1⟩:=hi;simp only [aG] at e1;subst e1;have GR:=(bD.1 hc).1;refine ⟨.slice none 0 0,[],by rw [gr (by omega)];simp [h2,hc],?_,⟨by simp, .inl ⟨rfl,rfl⟩⟩,rfl,fun g hg=>by simp [bu] at hg⟩;have e3:i *sz+k-vs.length=(i-zs.length) *sz+k:=by
      rw [hvl,h3,Nat.sub_mul];have:zs.length *sz≤i *sz:=lN _ (by omega);omega
     rw [gr (by rw [hvl,h3];have:zs.length *sz≤i *sz:=lN _ (by omega);omega),e3];exact IZ _ GR
   ·grind
   ·rcases mem u hu with hu|rfl
    ·rcases hvg g hgv with hb|rfl
     ·grind
     ·have:=(hok.block _ (hinu u hu _ hg)).2.1;omega
    ·simp [bu] at hg
   ·have split:∀q z,(vu++ys.map fun _=>(.slice none 0 0))[q]? =some z→∀g,bu z=some g→vu[q]? =some z:=fun q z hz g hg=>by
     by_cases hq:q<vu.length
     ·rwa [di hq] at hz
     ·rw [gr (by omega)] at hz
      simp only [cZ,bS] at hz;obtain ⟨c,_,e1⟩:=hz;subst e1;simp [bu] at hg
    exact h7 i j u v (split i u hu g hg) (split j v hv g hg') hij g hg hg') (fun j oj hj hne g hg=>by
   have hj':st.ob j=some oj:=by
    by_cases e':id=j
    ·omega
    ·simpa only [bl _ _ e'] using hj
   rcases jZ.1 hg with hg|⟨u,hu,hg⟩
   ·rcases hvg g hg with hb|rfl
    ·exact hR.apart _ j _ _ dG hj' (fun e=>hne e.symm) g (hinm g hb)
    ·intro hbj
     have:=((hR.obs j _ hj').block _ hbj).2.1;omega
   ·rcases mem u hu with hu|rfl
    ·exact hR.apart _ j _ _ dG hj' (fun e=>hne e.symm) g (hinu u hu g hg)
    ·simp [bu] at hg)
 have heq:∀o',St.new { st with ob:=put st.ob id none } id o'=St.new st id _:=fun o'=>by
  simp [St.new,St.dm]
  congr 1
  funext k
  by_cases e':id=k
  ·subst e';simp [cu]
  simp_all [bl]
 rw [heq] at KH;exact hK _ _ _ _ (KH.set (fun i hi=>by simp_all) (rowS' (by rfl)))
theorem Ga {t k e:TypeId} {r:Option Operand} (hR:Rel N w0 μ0 L μ loc st a w) (ht:P.underlying t=some (.map k e)) (hr:uR P st r=true):(Instr.makeMap t (r.map a.eval)).run P w= .ok (.map (some w.heap.size)) (w.alloc (.map #[] 0)):=by
 have hrun:(Instr.makeMap t (r.map a.eval)).run P w= .ok (.map (some w.heap.size)) (w.alloc (.map #[] 0)):=by
  cases r with
  |none=>rfl
  |some x=>
   simp [uR] at hr;cases hx:(bq P 0 st x).bind iW with
   |none=>simp_all
   |some y=>
    cases y with
    |int q n=>
     have:=fC hR hx;simp_all [rep,Instr.makeMap,bz,asInt,asIntOf]
    |_=>simp_all
 omega
theorem PU {o:Oper} {t k e:TypeId} {r:Option Operand} {d:Nat} (hR:Rel N w0 μ0 L μ loc st a w) (hd:d<N) (dc:o.dst=some d) (ho:o.op= .makeMap t r) (ht:P.underlying t=some (.map k e))
  (hr:uR P st r=true) (hK:nk N w0 μ0 L ((st.new d (.mp k e [] [])).set (some d) (.row d)) K):o.uM P a w K Q:=by
 have hrun:=Ga hR ht hr;refine gO (v:= .map (some w.heap.size)) (w':=w.alloc (.map #[] 0)) (by simp_all [execOp]) ?_;rw [dc];refine hK _ _ _ _ (hR.made hd (fun g hg=>uC.1 hg) ?_ ?_)
 ·refine ⟨_, #[],0,cv _ _ _, .inl hR.grown,(by show (w.heap.push _)[w.heap.size]? =_;simp),vi hR _ (aS _),by rfl,by rfl,⟨by simp,by simp⟩⟩
 ·exact JM rfl
theorem TS {key x:AV} {kv xv:Value} (h:vR key x=some true) (hk:rep μ key kv) (hx:rep μ x xv):kv=xv∧key=x:=by
 unfold vR at h;split at h
 ·rw [rep] at hk hx
  simp_all
 ·split at h
  ·rw [rep] at hk hx
   simp_all
  grind
 ·rw [rep] at hk hx
  simp_all
 grind
theorem DT {kv:Value} {key:AV} (hk:rep μ key kv) {kt:TypeId} (hok:jO P kt key=true) (w:World):(Instr.keyThatStays kv kv).run P w= .ok kv w:=by
 have hs:∀n,Instr.sameBits n kv kv=true:=by
  unfold jO at hok;split at hok
  ·simp_all [rep,Instr.sameBits,acC]
  ·simp_all [rep,Instr.sameBits]
  ·simp_all [rep,Instr.sameBits]
  ·cases hok
 simp_all [Instr.keyThatStays]
theorem Cz {xs:List AV} {vs:List Value} (h:bV μ xs vs) {i:Nat} {x:AV} {v:Value} (hx:rep μ x v):bV μ (xs.set i x) (vs.set i v):=by
 induction xs generalizing vs i with
 |nil=>simp_all [bV]
 |cons y xs ih=>
  obtain ⟨u,us,rfl,h1,h2⟩:=h;cases i with
  |zero=>simpa using bY hx h2
  |succ i=>simp_all [bY]
theorem BG {t kt et:TypeId} {b:Nat} {cN:Array MapEntry} {clock:Nat} {key:AV} {kv x:Value} {ks:List AV} {r:Option Nat} (hu:P.underlying t=some (.map kt et)) (hh:w.heap[b]? =some (.map cN clock)) (hkr:rep μ key kv) (hok:jO P kt key=true)
  (h1:bV μ ks (cN.toList.map (·.key))) (hf:qb key ks=some r):
  ∃kY clock',(Instr.mapUpdate t (.map (some b)) kv x).run P w= .ok () { w with heap:=w.heap.setIfInBounds b (.map kY clock') }∧
   (r=none→bV μ (ks++[key]) (kY.toList.map (·.key))∧kY.toList.map (·.val)=cN.toList.map (·.val)++[x])∧
   (∀j,r=some j→bV μ ks (kY.toList.map (·.key))∧kY.toList.map (·.val)=(cN.toList.map (·.val)).set j x∧j<cN.size)∧(WY cN clock→WY kY clock'):=by
 have MR:=oG hkr hok h1 hf w;cases r with
 |none=>
  refine ⟨cN.push { key:=kv,val:=x,born:=clock },clock+1,?_,fun _=>⟨?_,by simp⟩,(fun j e=>by cases e),fun hB=>⟨fun y hy=> ?_,?_⟩⟩
  ·simp [Instr.mapUpdate,bz hu,iF hh,jg hkr hok,MR,setObj,Sem.run,hh]
  ·simp_all [nZ,bY,ef]
  ·rw [Array.toList_push,bC] at hy
   rcases hy with hy|hy
   ·have:=hB.1 y hy;omega
   simp_all
  ·rw [Array.toList_push,bT,jq]
   refine ⟨hB.2,by simp,fun a ha b hb=> ?_⟩;obtain ⟨y,hy,rfl⟩:=aB.1 ha;simp at hb;have:=hB.1 y hy;omega
 |some j=>
  obtain ⟨e,he,hrun,y,hy,hyk⟩:=MR;obtain ⟨yv,Hl,hyr⟩:=sJ h1 hy;have he' :=by simpa using he
  have Qr :=by
   simp [he'] at Hl;exact Hl.symm
  subst Qr;obtain ⟨hsame,_⟩:=TS hyk hkr hyr;have DP:(cN.modify j fun e=>{ e with key:=kv,val:=x }).toList.map (·.born)=cN.toList.map (·.born):=by
   apply kE;intro i;by_cases e1:j=i
   ·simp_all
   ·simp [e1]
  refine ⟨_,clock,?_,(fun e=>by cases e),(fun j' ej=> ?_),fun hB=>⟨fun y hy=> ?_,by rw [DP];exact hB.2⟩⟩
  rotate_right
  ·have hm:y.born∈cN.toList.map (·.born):=by rw [←DP];exact aB.2 ⟨y,hy,rfl⟩
   obtain ⟨z,hz,e⟩:=aB.1 hm;rw [←e];exact hB.1 z hz
  ·simp [Instr.mapUpdate,bz hu,iF hh,jg hkr hok,hrun,he',←hsame,DT hkr hok,setObj,Sem.run,hh]
  ·injection ej with ej;subst ej
   refine ⟨?_,?_,(eG.1 he').1⟩
   ·have:(cN.modify j fun e=>{ e with key:=kv,val:=x }).toList.map (·.key)=cN.toList.map (·.key):=by
     apply kE;intro i;by_cases e1:j=i
     ·simp_all
     ·simp [e1]
    simp_all
   ·apply kE
    grind
theorem DF {o:Oper} {t:TypeId} {m k x:Operand} (hR:Rel N w0 μ0 L μ loc st a w) (dc:o.dst=none) (ho:o.op= .mapUpdate t m k x∨o.op= .insert t m k x) (h:w5 P st t m k x=some st')
  (hK:nk N w0 μ0 L st' K):o.uM P a w K Q:=by
 unfold w5 at h;split at h
 ·rename_i kt et hu
  split at h
  ·rename_i st1 hst1
   obtain ⟨μ1,IW⟩:∃μ1,Rel N w0 μ0 L μ1 loc st1 a w:=by
    unfold TV at hst1;split at hst1
    ·grind
    ·obtain ⟨μ',_,h'⟩:=hR.dD hst1;grind
    simp_all
   split at h
   ·rename_i id key v hm hk hx
    split at h
    ·rename_i k' e' ks vs dG
     cases hc:(jO P kt key&&v.Gd) with
     |false=>simp_all
     |true=>
      simp [hc] at h;simp at hc;split at h
      ·rename_i ks' vs' hput
       injection h with h
       subst h;obtain ⟨b,cN,clock,hl,hown,hh,tR,h1,h2,hB⟩:=IW.obs _ _ dG;have vB:a.eval m= .map (some b):=by
        have:=aU IW hm;rw [this,hl];rfl
       have hkr:=fC IW hk;have hxr:=fC IW hx;have key1:∃kY clock',(Instr.mapUpdate t (a.eval m) (a.eval k) (a.eval x)).run P w= .ok () { w with heap:=w.heap.setIfInBounds b (.map kY clock') }∧bV μ1 ks' (kY.toList.map (·.key))∧bV μ1 vs' (kY.toList.map (·.val))∧WY kY clock':=by
        unfold Cr at hput;cases hf:qb key ks with
        |none=>simp_all
        |some r=>
         obtain ⟨kY,clock',hrun,q1,q2,q3⟩:=BG (x:=a.eval x) hu hh hkr hc.1 h1 hf
         grind [nZ,bY,ef,Cz]
       obtain ⟨kY,clock',hrun,r1,r2,r3⟩:=key1;have hlt:=(eG.1 hh).1
       have Tw:=IW.write dG (by rw [hl];exact uC.2 rfl) (w':={ w with heap:=w.heap.setIfInBounds b (.map kY clock') }) (o':= .mp k' e' _ _) (fun b' hb'=>by
         grind) rfl rfl rfl (by simp) ⟨b,_,_,hl,hown,by simp [hlt],tR,r1,r2,r3⟩
       have:((execOp a.eval o).run P w)= .ok .skip { w with heap:=w.heap.setIfInBounds b (.map kY clock') }:=by
        unfold execOp;rcases ho with ho|ho<;>rw [ho]<;>simp [hrun]
       exact EE this (by rw [dc];exact hK _ _ _ _ Tw)
      grind
    grind
   grind
  grind
 grind
theorem Ee {xs:List AV} {vs:List Value} (h:bV μ xs vs) (i:Nat):bV μ (xs.eraseIdx i) (vs.eraseIdx i):=by
 induction xs generalizing vs i with
 |nil=>simp_all [bV]
 |cons x xs ih=>
  obtain ⟨u,us,rfl,h1,h2⟩:=h;cases i with
  |zero=>assumption
  |succ i=>simp_all [bY]
theorem LF {α β:Type} (f:α→β) (l:List α) (j:Nat):(l.eraseIdx j).map f=(l.map f).eraseIdx j:=by
 induction l generalizing j with
 |nil=>rfl
 |cons x l ih=>
  cases j with
  |zero=>rfl
  |succ j=>simp [ih]
theorem S8 {o:Oper} {c:Call} {t:TypeId} {ts:List TypeId} {m k:Operand} (hR:Rel N w0 μ0 L μ loc st a w) (dc:o.dst=none) (ho:o.op= .call c) (hc:c.callee= .builtin .delete) (ha:c.args.toList=[m,k]) (ht:c.argTypes.toList=t::ts) (h:wZ P st t m k=some st')
  (hK:nk N w0 μ0 L st' K):o.uM P a w K Q:=by
 obtain ⟨callee,⟨args⟩,⟨argTypes⟩⟩:=c;simp only at hc ha ht;subst hc;subst ha;subst ht;unfold wZ at h;split at h
 ·rename_i kt et hu
  split at h
  ·rename_i id key hm hk
   split at h
   ·rename_i k' e' ks vs dG
    cases hok:jO P kt key with
    |false=>simp_all
    |true=>
     simp only [hok,ai] at h;split at h
     ·rename_i ks' vs' aaf
      injection h with h
      subst h;obtain ⟨b,cN,clock,hl,hown,hh,tR,h1,h2,hB⟩:=hR.obs id _ dG;have vB:a.eval m= .map (some b):=by
       have:=aU hR hm;simp only [gy] at this;rw [this,hl];rfl
      have hkr:=fC hR hk;have key1:∃kY,(Builtin.delete_ (t::ts).toArray o.type #[a.eval m,a.eval k]).run P w= .ok (.tuple #[]) { w with heap:=w.heap.setIfInBounds b (.map kY clock) }∧bV μ ks' (kY.toList.map (·.key))∧bV μ vs' (kY.toList.map (·.val))∧WY kY clock:=by
       unfold mdel at aaf;cases hf:qb key ks with
       |none=>simp_all
       |some r=>
        have MR:=oG hkr hok h1 hf w;cases r with
        |none=>
         simp only [hf,aG,br] at aaf;obtain ⟨rfl,rfl⟩:=aaf;simp only [] at MR;exact ⟨cN,by simp [Builtin.delete_,vB,bz hu,iF hh,jg hkr hok,MR,setObj,Sem.run,hh],h1,h2,hB⟩
        |some j=>
         simp [hf] at aaf;obtain ⟨rfl,rfl⟩:=aaf;obtain ⟨e,he,hrun,_⟩:=MR;refine ⟨cN.eraseIdxIfInBounds j,by simp [Builtin.delete_,vB,bz hu,iF hh,jg hkr hok,hrun,setObj,Sem.run,hh],?_,?_,⟨fun y hy=>hB.1 y (by grind),by rw [Array.toList_eraseIdxIfInBounds];exact hB.2.sublist ((List.eraseIdx_sublist _ _).map _)⟩⟩
         ·simp_all [Ee,LF]
         simp_all [Ee,LF]
      obtain ⟨kY,hrun,r1,r2,r3⟩:=key1;have hlt:=(eG.1 hh).1
      have Tw:=hR.write dG (by rw [hl];exact uC.2 rfl) (w':={ w with heap:=w.heap.setIfInBounds b (.map kY clock) }) (o':= .mp k' e' _ _) (fun b' hb'=>by
        grind) rfl rfl rfl (by simp) ⟨b,_,_,hl,hown,by simp [hlt],tR,r1,r2,r3⟩
      refine gO (v:= .tuple #[]) (w':={ w with heap:=w.heap.setIfInBounds b (.map kY clock) }) (by
       unfold execOp;simp [resolve,invoke,builtin]
       simp_all) ?_
      rw [dc];exact hK _ _ _ _ Tw
     grind
   grind
  grind
 grind
theorem yR {id:Nat} {val:Value} {us:Array Value} (I7:loc id= .tuple us) (hbase:fM val=fM (loc id)):∀{cs:List qm} {vs:List Value},kz μ loc cs vs→kz μ (r6 loc id val) cs vs
 |[],vs,h=>h
 |c::cs,vs,⟨u,_,e,h1,h2⟩=>by
  refine ⟨u,_,e,?_,yR I7 hbase h2⟩;cases c with
  |v a=>exact h1
  |p j=>
   obtain ⟨b,k1,k2⟩:=h1;have hne:j≠id:=fun e=>by simp_all
   exact ⟨b,by simp_all [cE],k2⟩
  |r j=>
   show u=fM _;by_cases e:j=id
   ·subst e;rw [cv,hbase];exact h1
   ·rw [cE _ _ e];exact h1
theorem LR {id:Nat} {val:Value} {us:Array Value} (I7:loc id= .tuple us) (hbase:fM val=fM (loc id)) {s:SV} {v:Value} (He:(∀q u,xx q (loc id) u→xx q val u)∨s.mentions (id+40000)=false) (k:gy μ loc s v):gy μ (r6 loc id val) s v:=by
 induction s generalizing v with
 |undef=>exact k
 |any=>exact k
 |pv y=>exact k
 |cp cs=>exact k
 |ptr j off=>
  obtain ⟨b,h1,h2⟩:=k;have hne:j≠id:=fun e=>by simp_all
  exact ⟨b,by simp_all [cE],h2⟩
 |row j=>
  show v=fM _;by_cases e:j=id
  ·subst e;rw [cv,hbase];exact k
  ·rw [cE _ _ e];exact k
 |rp j sz i off=>
  obtain ⟨g,n,c,h1,h2⟩:=k;refine ⟨g,n,c,?_,h2⟩
  grind [cv,cE]
 |sub j sz lo hi=>
  obtain ⟨A,n,c,A',c',h1,h2⟩:=k;have hne:j≠id:=fun e=>by simp_all
  exact ⟨A,n,c,A',c',by simp_all [cE],h2⟩
 |cl f caps=>obtain ⟨vs,e,hc⟩:=k;exact ⟨vs,e,yR I7 hbase hc⟩
 |ag caps=>obtain ⟨vs,e,hc,h1⟩:=k;exact ⟨vs,e,yR I7 hbase hc,h1⟩
 | «at» j q=>
  show xx q _ v;by_cases e:j=id
  ·subst e
   rw [cv];rcases He with He|He
   ·exact He q v k
   simp_all [SV.mentions]
  ·rw [cE _ _ e];exact k
 |two s b ih=>obtain ⟨y,e,k⟩:=k;exact ⟨y,e,ih He k⟩
theorem JJ {id:Nat} {val:Value} {us:Array Value} (I7:loc id= .tuple us) (hbase:fM val=fM (loc id)):∀{cs:List SV} {vs:List Value},((∀q u,xx q (loc id) u→xx q val u)∨∀c∈cs,c.mentions (id+40000)=false)→iQ μ loc cs vs→iQ μ (r6 loc id val) cs vs
 |[],vs,_,h=>h
 |c::cs,vs,He,⟨u,_,e,h1,h2⟩=>⟨u,_,e,LR I7 hbase (He.imp (fun h=>h) fun h=>h c (by simp)) h1,JJ I7 hbase (He.imp (fun h=>h) fun h c hc=>h c (by simp [hc])) h2⟩
def noAt (id:Nat):Ob→Prop
 | .box _ cells=>∀c∈cells,c.mentions (id+40000)=false
 |_=>True
theorem Ye {n0:Nat} {i id:Nat} {val:Value} {us:Array Value} (I7:loc id= .tuple us) (hbase:fM val=fM (loc id)) {o:Ob} (He:(∀q u,xx q (loc id) u→xx q val u)∨noAt id o) (h:mE n0 L μ loc w i o) (hne:i≠id):mE n0 L μ (r6 loc id val) w i o:=by
 cases o with
 |box t cells=>
  obtain ⟨b,vs,hl,ho,hh,hm,hs,h1⟩:=h;exact ⟨b,vs,by simp_all [cE],ho,hh,hm,JJ I7 hbase He hs,h1⟩
 |row e sz xs=>
  obtain ⟨vs,hown,hrc,hm⟩:=h;refine ⟨vs,by simp_all [cE],hrc,fun g hg=>hm g (by simp_all [cE])⟩
 |mp k e ks es=>
  obtain ⟨b,cN,clock,hl,rest⟩:=h;exact ⟨b,_,_,by simp_all [cE],rest⟩
 |mr k e sz ks vs=>
  obtain ⟨b,cN,clock,us,hl,rest⟩:=h;exact ⟨b,_,_,us,by simp_all [cE],rest⟩
 |it s pos=>
  obtain ⟨b,hl,rest⟩:=h;exact ⟨b,by simp_all [cE],rest⟩
 |lp xs=>
  obtain ⟨us,hl,h1,h2⟩:=h;exact ⟨us,by simp_all [cE],fun g hg=>h1 g (by simp_all [cE]),h2⟩
 |rn e sz k e' sz' xs ys=>
  obtain ⟨m,us,vs,hl,rest⟩:=h;exact ⟨m,us,vs,by simp_all [cE],rest⟩
theorem mr_at {id b:Nat} {us:List Value} {val:Value} {X:Prop} (hl:loc id= .tuple (.map (some b)::us).toArray):(∀q u,xx q (loc id) u→xx q val u)∨X:= .inl fun q u hq=>by
 rw [hl] at hq;cases q with
 |full=>obtain ⟨A,n,c,e,_⟩:=hq;cases e
 |nr q=>
  obtain ⟨m',us',e,⟨A,n,c,h1⟩,_⟩:=hq;simp_all
theorem Rel.Ws (hR:Rel N w0 μ0 L μ loc st a w) {id:Nat} {o o':Ob} {val:Value} {us:Array Value} (ho:st.ob id=some o) (I7:loc id= .tuple us) (hbase:fM val=fM (loc id)) (hsmall:id<10000) {g:Nat} (hg:jH (loc id) g) {w':World}
  (hch:∀b,b≠g→w'.heap[b]? =w.heap[b]?) (hos:w'.os=w.os) (I6:w'.tape=w.tape) (hout:w'.output=w.output) (hsz:w'.heap.size=w.heap.size)
  (dG:mE w0.heap.size L μ (r6 loc id val) w' id o') (hap:∀j oj,st.ob j=some oj→j≠id→∀q,jH val q→¬jH (loc j) q) (He:(∀q u,xx q (loc id) u→xx q val u)∨((∀i s,st.env i=some s→s.mentions (id+40000)=false)∧∀i oi,st.ob i=some oi→noAt id oi)) (YP:L.q→w.drawn≤w'.drawn:=by exact fun _=>aS _):Rel N w0 μ0 L μ (r6 loc id val) { st with ob:=put st.ob id (some o') } a w':=by
 obtain ⟨hown,hlt,tR⟩:=(hR.obs _ o ho).block g hg
 have h1:=(hR.drop id).world (Mu.le.refl _) (fun _ _ _ h=> .inl h) (fun b j v h=>by
   have:=hR.uI b j v h
   grind [fZ]) (fun i oi hi b hb=>by
   by_cases e:id=i
   ·subst e;simp [cu] at hi
   ·simp [bl _ _ e] at hi
    have hne:b≠g:=fun e'=>by subst e';exact hR.apart _ i o _ ho hi e b hg hb
    exact ⟨hch b hne,((hR.obs i _ hi).block b hb).2.2⟩) (fun b hb hl=>by
   refine hch b (fun e=> ?_);subst e;rcases hown with h|⟨v,hv,h⟩
   ·omega
   ·exact hl ⟨id,v,hv,h⟩) hos I6 hout (by omega) YP
 refine ⟨h1.small,h1.names,?_,h1.size,h1.defers,?_,h1.uI,h1.base,?_,?_,h1.keep,h1.os,h1.tape,h1.output,h1.grown,h1.drawn⟩
 ·intro i v hv hi
  have hne:i≠id:=fun e=>by subst e;rw [hR.names i hsmall] at hv;grind
  rw [cE _ _ hne];exact hR.fix i v hv hi
 ·intro i s hi
  obtain ⟨v,hv,hr⟩:=h1.env i s hi
  grind [LR]
 ·intro i oi hi
  by_cases e:id=i
  ·simp_all [cu]
  ·simp [bl _ _ e] at hi
   exact Ye I7 hbase (He.imp (fun h=>h) fun h=>h.2 i _ hi) (h1.obs i _ (by simp_all [bl])) (cR e)
 ·intro i j oi oj hi hj hij q hq
  by_cases ei:id=i
  ·simp_all [bl,cv,cE,cR]
  ·simp [bl _ _ ei] at hi
   rw [cE _ _ (cR ei)] at hq;by_cases ej:id=j
   ·grind [cv]
   ·simp [bl _ _ ej] at hj
    rw [cE _ _ (cR ej)];exact hR.apart i j _ _ hi hj hij q hq
theorem Rel.Hx (hR:Rel N w0 μ0 L μ loc st a w) (id:Nat):Rel N w0 μ0 L μ loc (st.dm id) a w:=by
 have hu:r6 loc id (loc id)=loc:=funext fun i=>by
  grind [cv,cE]
 have hsub:∀i oi,(st.dm id).ob i=some oi→i≠id∧∃oj,st.ob i=some oj∧oi=oj.dm id:=fun i oi h=>by
  by_cases e:id=i
  ·simp_all [St.dm,cu]
  ·simp [St.dm,bl _ _ e,bS] at h
   grind
 refine ⟨hR.small,hR.names,hR.fix,hR.size,hR.defers,?_,hR.uI,hR.base,?_,?_,hR.keep,hR.os,hR.tape,hR.output,hR.grown,hR.drawn⟩
 ·intro i s hi
  simp [St.dm,bS] at hi;obtain ⟨s',h1,rfl⟩:=hi;obtain ⟨v,hv,hr⟩:=hR.env i _ h1;simp_all [jT]
 ·intro i oi hi
  obtain ⟨hne,oj,h1,rfl⟩:=hsub i _ hi;have:=Cv (x:=loc id) (hR.obs i _ h1) hne;simp_all
 ·intro i j oi oj hi hj hij
  obtain ⟨_,oi',h1,_⟩:=hsub i _ hi;obtain ⟨_,oj',h2,_⟩:=hsub j _ hj;exact hR.apart i j _ _ h1 h2 hij
theorem Ah {t:TypeId} {m k:Operand} {et:TypeId} {id:Nat} {key:AV} {k' e:TypeId} {sz:Nat} {ks:List AV} {vs:List (Option (List (List AV)))} (h:LH P st t m k=some (et,id,key,k',e,sz,ks,vs)):
  ∃kt,P.underlying t=some (.map kt et)∧bq P t st m=some (.row id)∧(bq P kt st k).bind iW =some key∧st.ob id=some (.mr k' e sz ks vs)∧jO P kt key=true∧id<10000:=by
 unfold LH at h;split at h
 ·rename_i kt et' hu
  split at h
  ·rename_i id' key' hm hk
   split at h
   ·cases hb:(jO P kt key'&&Nat.blt id' 10000) with
    |false=>simp_all
    |true=>
     simp_all
   grind
  grind
 grind
theorem Sa {t:TypeId} {s:Nat} (h:qa P t=some (.eH s [])) (w:World):(zeroValue t).run P w= .ok (.slice none 0 0) w:=by
 unfold qa at h;split at h
 ·split at h
  ·simp_all
  ·unfold ofConst at h
   split at h
   ·cases h
   ·cases h
   ·cases h
   ·simp_all [zeroValue,typeInfo]
   ·cases h
   ·cases h
   ·grind
   grind
  grind
 grind
theorem Lc {o:Oper} {t:TypeId} {x:Operand} {d:Nat} (hR:Rel N w0 μ0 L μ loc st a w) (hd:d<N) (dc:o.dst=some d) (ho:o.op= .load t x) (h:wj P st t x d=some st') (hK:nk N w0 μ0 L st' K):o.uM P a w K Q:=by
 unfold wj at h;split at h
 ·rename_i id sz i off hx hagg
  split at h
  ·rename_i e sz' k e' s' xs ys dG
   split at h
   ·rename_i zs hvi
    cases hb:(Nat.beq sz sz'&&Nat.beq off k&& !(Nat.beq id d)&&Nat.blt id 10000) with
    |false=>simp_all
    |true=>
    rw [hb] at h;simp only [ai,aG] at h;subst h;simp only [aF,gV] at hb;obtain ⟨⟨⟨b1,b2⟩,b3⟩,b4⟩:=hb;have e1:=beq_iff.1 b1;have e2:=beq_iff.1 b2;subst e1 e2;have hne:id≠d:=fun e=>by simp_all
    have hid:id<10000:=cr.mp b4;have hd':d<10000:=eX hd hR.small;obtain ⟨g,n,c,hbase,YR⟩:=aU hR hx;obtain ⟨m,us,vs,hl,hm,hown,hrc,hk,h2,h3,h4,h5,h6,h7⟩:=hR.obs id _ dG;obtain ⟨u,cells,k1,k2,k3,k4,k5⟩:=h4 i zs hvi;have vB:m= .slice (some ⟨g,0,none⟩) n c:=by
     rw [hl] at hbase;exact hbase
    have hcell:=hown.cells (g:=g) (by rw [vB];rfl) _ _ k2;rw [add_lit,gE] at hcell
    refine gO (v:=u) (w':=w) (by
     unfold execOp;rw [ho]
     simp [YR,Instr.loadAt,Instr.sureAddr,loadVar,qX hagg,hcell]) ?_
    rw [dc];have hil:i<us.length:=(bD.1 k1).1;have hLid:∀{q},Fh w0.heap.size L id q→w0.heap.size≤q:=fun {q} hq=>by
     rcases hq with hq|⟨v,hv,_⟩
     ·exact hq
     ·rw [hR.names id hid] at hv;cases hv
    have r1:=hR.Ws (id:=id) (o':= .rn e sz off e' s' xs (ys.set i none)) (val:= .tuple (m::us.set i undef).toArray) (g:=g) (w':=w) dG hl (by rw [hl];rfl) hid (by rw [hl];exact jZ.2 (.inl (by rw [vB];rfl))) (fun _ _=>rfl) rfl rfl rfl rfl (by
      have und:∀(q:Nat) (z:Value),(us.set i undef)[q]? =some z→∀g,bu z=some g→us[q]? =some z:=fun q z hz g hg=>by
       by_cases hqi:q=i
       ·rw [hqi,lQ hil] at hz
        injection hz with hz
        subst hz;simp [undef,bu] at hg
       grind
      refine ⟨m,us.set i undef,vs,cv _ _ _,hm,hown,hrc,hk,by simp [h2],by simp [h3],fun q zs' hq=> ?_,fun q hq=> ?_,fun z hz g hg=> ?_,fun q q' x y hx hy hqq g hg hg'=>h7 q q' x y (und q x hx g hg) (und q' y hy g hg') hqq g hg hg'⟩
      ·have hqi:q≠i:=fun e=>by subst e;simp [oP] at hq
       rw [gJ (cR hqi)] at hq;obtain ⟨u',cells',m1,m2⟩:=h4 q zs' hq;exact ⟨u',cells',by rw [gJ (cR hqi)];exact m1,m2⟩
      ·by_cases hqi:q=i
       ·subst hqi;simp [oP,hil]
       ·rw [gJ (cR hqi)] at hq
        rw [gJ (cR hqi)];exact h5 q hq
      ·rcases nq hz with hz|rfl
       ·exact h6 z hz g hg
       ·simp [undef,bu] at hg) (fun j oj hj hji q hq=>by
      refine fun Lx=>hR.apart _ j _ _ dG hj (cR hji) q ?_ Lx
      rw [hl];rcases jZ.1 hq with hq|⟨z,hz,VC⟩
      ·exact jZ.2 (.inl hq)
      ·rcases nq hz with hz|rfl
       ·exact jZ.2 (.inr ⟨z,hz,VC⟩)
       ·simp [undef,bu] at VC) (.inl fun q u hq=>by
      rw [hl] at hq;cases q with
      |full=>obtain ⟨A,n,c,e,_⟩:=hq;cases e
      |nr q=>
       obtain ⟨m',us',e,h1,h2⟩:=hq;have e':=aI Array.toList (Value.tuple.inj e);obtain ⟨rfl,rfl⟩:=e';refine ⟨m,_,rfl,h1,fun x hx=> ?_⟩;by_cases hqi:q=i
       ·subst hqi;rw [lQ hil] at hx;injection hx with hx;exact .inl hx.symm
       ·rw [gJ (cR hqi)] at hx;exact h2 x hx)
    have DR:fM u=u:=by rcases k3.2 with ⟨e1,_⟩|⟨g,cap,cur,e1,_⟩<;>rw [e1]<;>rfl
    have hin:∀g,jH u g→bu u=some g:=fun g hg=>by
     rcases k3.2 with ⟨e1,_⟩|⟨g',cap,cur,e1,_⟩<;>rw [e1] at hg⊢<;>exact iC.1 hg
    have r2:=r1.new (o:= .row _ _ _) (.inl hd') (by
      refine ⟨_,by rw [cv];omega,k4,fun g hg=> ?_⟩;rw [cv] at hg;obtain ⟨m1,m2⟩:=k5 g (hin g hg)
      exact ⟨.inl (hLid m1),m2⟩) (fun j oj hj hjd g hg=>by
      by_cases hji:id=j
      ·subst hji
       rw [cv];intro hb;rcases jZ.1 hb with hq|⟨z,hz,VC⟩
       ·grind
       ·obtain ⟨q,hq,eq⟩:=iL.1 hz
        have hq':(us.set i undef)[q]? =some z:=by grind
        by_cases hqi:q=i
        ·grind [undef,bu]
        grind
      ·simp [bl _ _ hji] at hj
       rw [cE _ _ (cR hji)]
       exact hR.apart _ j _ _ dG hj hji g (by grind [jZ]))
    exact hK _ _ _ _ (r2.set (fun i hi=>by simp_all) (JM DR))
   grind
  grind
 grind
theorem RJ {α:Type}:∀{l:List α} {k:Nat} {a:α},l[k]? =some a→l.set k a=l
 |[],_,_,h=>by simp at h
 |x::l,0,a,h=>by simp_all
 |x::l,k+1,a,h=>by simp at h;simp [RJ h]
theorem BQ {sz k:Nat} {u:Value} (hk:k<sz) (hu:rep μ .hole u):∀{xs:List (List AV)} {vs:List Value} {i:Nat},c4 μ sz xs vs→i<xs.length→(∀c∈xs,c[k]? =some AV.hole)→
  c4 μ sz xs (vs.set (i *sz+k) u)∧i *sz+k<vs.length
 |[],_,_,_,h,_=>by simp at h
 |x::xs,vs,i,⟨us,ws,e,h1,h2,h3⟩,hi,hall=>by
  subst e;have hx:=hall x (by simp);have hh:=hu;rw [rep] at hh;cases i with
  |zero=>
   rw [vG,gE,CR _ _ (by omega)];refine ⟨⟨_,ws,rfl,⟨?_,fun z hz=> ?_⟩,by simp [h2],h3⟩,by simp;omega⟩
   ·have:=Cz h1.1 (i:=k) hu
    rwa [RJ hx] at this
   ·rcases nq hz with hz|rfl
    ·exact h1.2 z hz
    simp_all
  |succ i=>
   obtain ⟨r1,r2⟩:=BQ hk hu h3 (i:=i) (by simp_all) fun c hc=>hall c (by simp [hc])
   have e1:(i+1) *sz+k-us.length=i *sz+k:=by rw [zN];omega
   rw [qY _ _ (by grind),e1];exact ⟨⟨us,_,rfl,h1,h2,r1⟩,by grind⟩
theorem Rj {e:TypeId} {sz:Nat} {m u:Value} {n p:Nat} {vs:List Value} (h:w.ownsRow 0 e sz m n vs) (hp:p<vs.length) (hu:u.oneCell'=true):
  ∃g cap w',m= .slice (some ⟨g,0,none⟩) n cap∧(storeCells ⟨g,p,none⟩ [u] 0).run P w= .ok () w'∧w'.ownsRow 0 e sz m n (vs.set p u)∧(∀b,b≠g→w'.heap[b]? =w.heap[b]?)∧w'.os=w.os∧w'.tape=w.tape∧w'.output=w.output∧w'.heap.size=w.heap.size∧w'.drawn=w.drawn:=by
 rcases h.2 with ⟨_,e2⟩|⟨g,cap,cur,e1,_,h2,h3,h4,h5,h6⟩
 ·have:=h.1;simp_all
 ·have hpc:p<cur.size:=by
   have e2:=aI List.length h6;simp at e2;omega
  refine ⟨g,_,_,e1,vJ P g p e _ 0 _ w h2 (by simp;omega) (by simp_all),⟨by simp [h.1], .inr ⟨g,_,_,e1,dh _,zO w g _ _ e _ h2,h3,h4,?_,?_⟩⟩,fun b hb=>vK w g b _ hb,rfl,rfl,rfl,by simp,rfl⟩
  ·simp;omega
  ·have e3:cur.toList.take (p+0)++[u]++cur.toList.drop (p+0+[u].length)=cur.toList.set p u:=by
    rw [FO,au (by omega)];simp
   rw [e3,List.take_set,h6]
theorem Rr {o:Oper} {t:TypeId} {x y:Operand} {id sz i off j:Nat} (hR:Rel N w0 μ0 L μ loc st a w) (dc:o.dst=none) (ho:o.op= .store t x y) (hx:bq P 0 st x=some (.rp id sz i off)) (hy:bq P t st y=some (.row j))
  (h:Gn P st t id sz i off j=some st') (hK:nk N w0 μ0 L st' K):o.uM P a w K Q:=by
 unfold Gn at h;split at h
 ·rename_i e sz' k e' s' xs ys e2 s2 zs hagg hsz dG GU
  cases hb:(Nat.beq sz sz'&&Nat.beq off k&&Nat.blt id 10000&&Nat.blt j 10000&&Nat.beq e' e2&&Nat.beq s' s2&&Nat.blt i ys.length&& !(Nat.beq id j)) with
  |false=>simp_all
  |true=>
  rw [hb] at h;simp only [ai,aG] at h;subst h;simp only [aF,gV] at hb;obtain ⟨⟨⟨⟨⟨⟨⟨b1,b2⟩,b3⟩,b4⟩,b5⟩,b6⟩,b7⟩,b8⟩:=hb;have c1:=beq_iff.1 b1;have c2:=beq_iff.1 b2;have c5:=beq_iff.1 b5;have c6:=beq_iff.1 b6;subst c1 c2 c5 c6;have hne:id≠j:=fun e=>by simp_all
  have hid:id<10000:=cr.mp b3;have hj:j<10000:=cr.mp b4;have hil:i<ys.length:=cr.mp b7;obtain ⟨g,n,c,hbase,YR⟩:=aU hR hx;have Hl:a.eval y=loc j:=(aU hR hy:a.eval y=fM (loc j)).trans (jf (hR.obs j _ GU));obtain ⟨cells,hrow,MW,hgj⟩:=hR.obs j _ GU;obtain ⟨m,us,vs,hl,hm,hown,hrc,hk,h2,h3,h4,h5,h6,h7⟩:=hR.obs id _ dG;have vB:m= .slice (some ⟨g,0,none⟩) n c:=by
   rw [hl] at hbase;exact hbase
  have hhole:rep μ .hole (loc j):=by
   rcases hrow.2 with ⟨e1,_⟩|⟨g',cap,cur,e1,_⟩<;>rw [e1]<;>simp [rep,Value.oneCell',Value.cells]
  have hone:(loc j).oneCell'=true∧(loc j).cells= #[loc j]:=by simpa [rep] using hhole
  obtain ⟨I4,hp⟩:=BQ hk.1 hhole hrc (i:=i) (by omega) hk.2;obtain ⟨g',cap,w',e1,hrun,hown',hch,hos,I6,hout,hsize,YP⟩:=Rj (P:=P) hown hp hone.1;have eg:g=g':=by rw [vB] at e1;simp at e1;exact e1.1
  subst eg;have hin:∀q,jH (loc j) q→bu (loc j)=some q:=fun q hq=>by
   rcases hrow.2 with ⟨e1,_⟩|⟨g',cap,cur,e1,_⟩<;>rw [e1] at hq⊢<;>exact iC.1 hq
  have hfree:∀q,bu (loc j)=some q→¬jH (loc id) q:=fun q hq=>hR.apart j id _ _ GU dG (cR hne) q (.inl hq)
  have YO:∀q,bu (loc j)=some q→bu m≠some q:=fun q hq e=>hfree q hq (by rw [hl];exact jZ.2 (.inl e))
  have hbu:∀u∈us,∀q,bu u=some q→bu (loc j)≠some q:=fun u hu q hq e=>hfree q e (by rw [hl];exact jZ.2 (.inr ⟨u,hu,hq⟩))
  have hmg:bu m=some g:=by rw [vB];rfl
  refine EE (w':=w') (by
   unfold execOp;rw [ho];have h1:(a.eval y).cells.size=1:=by rw [Hl,hone.2];rfl
   have h2:(a.eval y).cells.toList=[loc j]:=by rw [Hl,hone.2]
   simp only [Instr.storeAt,YR,Instr.sureAddr,fQ,kC,gC,storeVar,kI hsz,h1,h2,ne_eq,qK,ez,hrun]) ?_
  rw [dc];have hob1:((st.dm j).dm (id+40000)).ob id=some (.rn e sz off e' s' xs ys):=by
   have hne2:id+40000≠id:=by omega
   simp [St.dm,bl _ _ (cR hne),bl _ _ hne2,dG,Ob.dm]
  have hnm:∀(s:SV) (q:Nat),(s.dm q).mentions q=false:=fun s q=>by
   unfold SV.dm;cases h:s.mentions q with
   |true=>rfl
   |false=>exact h
  have iu:i<us.length:=by omega
  refine hK _ _ _ _ (((hR.Hx j).Hx (id+40000)).Ws (id:=id) (o':= .rn e sz off e' s' xs (ys.set i (some zs))) (val:= .tuple (m::us.set i (loc j)).toArray) (g:=g) (w':=w') hob1 hl (by rw [hl];rfl) hid (by rw [hl];exact jZ.2 (.inl hmg)) hch hos I6 hout hsize ?_ (fun q oj hq hqi z hz VC=> ?_) (.inr ⟨fun t s hs=>by
   simp only [St.dm,bS] at hs;obtain ⟨s',_,rfl⟩:=hs;exact hnm _ _,fun t o ho'=>by
   by_cases e:id+40000=t
   ·subst e;simp [St.dm,cu] at ho'
   ·simp only [St.dm,bl _ _ e,bS] at ho'
    obtain ⟨o1,_,rfl⟩:=ho';cases o1<;>simp only [Ob.dm,noAt];intro c hc;obtain ⟨c',_,rfl⟩:=aB.1 hc
    exact hnm _ _⟩) (fun _=>by omega))
  ·have split:∀q z,(us.set i (loc j))[q]? =some z→us[q]? =some z∧q≠i∨q=i∧z=loc j:=fun q z hz=>by
    by_cases hq:q=i
    ·subst hq
     rw [lQ iu] at hz;injection hz with hz
     exact .inr ⟨rfl,hz.symm⟩
    ·rw [gJ (cR hq)] at hz;exact .inl ⟨hz,hq⟩
   refine ⟨m,us.set i (loc j),vs.set (i *sz+off) (loc j),cv _ _ _,hm,hown',I4,hk,by simp [h2],by simp [h3],fun q zs' hq=> ?_,fun q hq=> ?_,fun z hz q hq=> ?_,fun q q' z z' hz hz' hqq b hb hb'=> ?_⟩
   ·by_cases hqi:q=i
    ·subst hqi
     rw [lQ hil] at hq;simp only [aG] at hq;subst hq;refine ⟨loc j,cells,by rw [lQ iu],by rw [lQ hp],lW hrow (fun b hb=>hch b fun e=>by subst e;exact YO b hb hmg),MW,fun b hb=> ?_⟩;obtain ⟨m1,m2⟩:=hgj b (.inl hb);rcases m1 with m1|⟨v,hv,_⟩
     ·exact ⟨.inl m1,m2⟩
     ·rw [hR.names j hj] at hv;cases hv
    ·rw [gJ (cR hqi)] at hq
     obtain ⟨u',cells',m1,m2,m3,m4,m5⟩:=h4 q zs' hq;have hpq:i *sz+off≠q *sz+off:=fun e=>hqi (Nat.eq_of_mul_eq_mul_right (jw (dh _) hk.1) (by omega))
     exact ⟨u',_,by grind,by rw [gJ hpq];exact m2,lW m3 (fun b hb=>hch b fun e=>by grind),m4,m5⟩
   ·grind
   ·grind
   ·rcases split q z hz with ⟨YQ,_⟩|⟨e1,e2⟩<;>rcases split _ _ hz' with ⟨hv2,_⟩|⟨e3,e4⟩
    ·exact h7 q _ z _ YQ hv2 hqq b hb hb'
    ·rw [e4] at hb';exact hbu z (aT YQ) b hb hb'
    ·rw [e2] at hb;exact hbu _ (aT hv2) b hb' hb
    ·exact hqq (e1.trans e3.symm)
  ·have hq4:id+40000≠q:=fun e=>by subst e;simp [St.dm,cu] at hq
   rw [St.dm] at hq;simp [bl _ _ hq4,bS] at hq;obtain ⟨oj0,hq,_⟩:=hq;have Lx:q≠j:=fun e=>by simp_all [St.dm,cu]
   simp [St.dm,bl _ _ (cR Lx),bS] at hq;obtain ⟨oj',hq',_⟩:=hq;rcases jZ.1 hz with hz|⟨u,hu,hz⟩
   ·exact hR.apart _ q _ _ dG hq' (cR hqi) z (by grind [jZ]) VC
   ·rcases nq hu with hu|rfl
    ·exact hR.apart _ q _ _ dG hq' (cR hqi) z (by grind [jZ]) VC
    ·exact hR.apart j q _ _ GU hq' (cR Lx) z (.inl hz) VC
 grind
theorem Nf {o:Oper} {x:Operand} {id d:Nat} (hR:Rel N w0 μ0 L μ loc st a w) (hd:d<N) (dc:o.dst=some d) (ho:o.op= .assign x) (hx:bq P o.type st x=some (.row id)) (h:Uc st id d=some st') (hK:nk N w0 μ0 L st' K):o.uM P a w K Q:=by
 unfold Uc at h;split at h
 ·rename_i e sz xs dG
  cases MP:Nat.beq _ d with
  |true=>
   rw [MP] at h;simp at h;subst h;have:=beq_iff.1 MP;subst this;have wM :=(aU hR hx).trans (jf (hR.obs _ _ dG));refine gO (v:=loc id) (w':=w) (by simp_all [execOp]) ?_;rw [dc];exact hK _ _ _ _ (hR.set (fun i hi=>by simp_all) ((jf (hR.obs _ _ dG)).symm))
  |false=>
  rw [MP] at h;cases hb:Nat.blt id 10000 with
  |false=>simp_all
  |true=>
   rw [hb] at h;simp at h;subst h;have hid :=cr.mp hb;have hd' :=eX hd hR.small;have wM :=(aU hR hx).trans (jf (hR.obs _ _ dG));obtain ⟨vs,hown,hrc,hm⟩:=hR.obs _ _ dG;have hbase:=jf (hR.obs _ _ dG);refine gO (v:=loc id) (w':=w) (by simp_all [execOp]) ?_;rw [dc]
   have r1:=(hR.Hx id).new (o:= .row e _ _) (.inl hd') (by
     refine ⟨vs,by rw [cv];omega,hrc,fun g hg=> ?_⟩;rw [cv] at hg;obtain ⟨m1,m2⟩:=hm g hg;rcases m1 with m1|⟨v,hv,_⟩
     ·exact ⟨.inl m1,m2⟩
     ·rw [hR.names _ hid] at hv;grind) (fun j oj hj hjd g hg=>by
     by_cases hji:id=j
     ·simp_all [St.dm,cu]
     ·simp [St.dm,bl _ _ hji,bS] at hj
      obtain ⟨oj',hj',_⟩:=hj
      exact hR.apart _ j _ _ dG hj' hji g hg)
   exact hK _ _ _ _ (r1.set (fun i hi=>by simp_all) (JM hbase))
 grind
theorem Xr {o:Oper} {t:TypeId} {m k:Operand} {d:Nat} (hR:Rel N w0 μ0 L μ loc st a w) (hd:d<N) (dc:o.dst=some d) (ho:o.op= .lookup t m k false) (h:LI P st t m k d=some st') (hK:nk N w0 μ0 L st' K):o.uM P a w K Q:=by
 unfold LI at h;split at h
 ·rename_i et id key k' e sz ks vs hmk
  obtain ⟨kt,hu,hm,hk,dG,hok,hid⟩:=Ah hmk;cases ze:Nat.beq id d with
  |true=>rw [ze] at h;cases h
  |false=>
  simp only [ze,aj] at h;have hne:id≠d:=fun e=>by simp_all
  obtain ⟨b,cN,clock,us,hl,hown,hh,tR,h1,h2,h3,h4,h5,h6⟩:=hR.obs id _ dG;have vB:a.eval m= .map (some b):=by
   have:a.eval m=fM (loc id):=aU hR hm;rw [this,hl];rfl
  have hkr:=fC hR hk;have hd':d<10000:=eX hd hR.small;split at h
  ·rename_i i hf
   have MR:=oG hkr hok h1 hf w;obtain ⟨ent,he,hrun,_⟩:=MR;split at h
   ·rename_i xs hvi
    injection h with h;subst h
    obtain ⟨u,cells,k1,k2,k3,k4,k5⟩:=h4 i xs hvi;have hval:u=ent.val:=by
     have he':cN[i]? =some ent:=by simpa using he
     simp [he'] at k2;exact k2.symm
    refine gO (v:=ent.val) (w':=w) (by
     unfold execOp;rw [ho]
     simp [vB,Instr.lookup,bz hu,iF hh,jg hkr hok,hrun]) ?_
    rw [dc,←hval];have hil:i<us.length:=(bD.1 k1).1
    have r1:=hR.Ws (id:=id) (o':= .mr k' e sz ks (vs.set i none)) (val:= .tuple (.map (some b)::us.set i undef).toArray) (g:=b) (w':=w) dG hl (by rw [hl];rfl) hid (by rw [hl];exact oI.2 (.inl rfl)) (fun _ _=>rfl) rfl rfl rfl rfl (by
      refine ⟨b,cN,clock,us.set i undef,cv _ _ _,hown,hh,tR,h1,by simp [h2],by simp [h3],fun q ys hq=> ?_,fun q hq=> ?_,fun q q' x y hx hy hqq g hg=> ?_⟩
      ·have hqi:q≠i:=fun e=>by subst e;simp [oP] at hq
       rw [gJ (cR hqi)] at hq;obtain ⟨u',cells',m1,m2⟩:=h4 q ys hq;exact ⟨u',cells',by rw [gJ (cR hqi)];exact m1,m2⟩
      ·by_cases hqi:q=i
       ·subst hqi;simp [oP,hil]
       ·rw [gJ (cR hqi)] at hq
        rw [gJ (cR hqi)];exact h5 q hq
      ·have und:∀(q:Nat) (z:Value),(us.set i undef)[q]? =some z→∀g,bu z=some g→us[q]? =some z:=fun q z hz g hg=>by
        by_cases hqi:q=i
        ·rw [hqi,lQ hil] at hz
         injection hz with hz
         subst hz;simp [undef,bu] at hg
        ·rwa [gJ (cR hqi)] at hz
       intro hg'
       exact h6 q q' x y (und q x hx g hg) (und q' y hy g hg') hqq g hg hg') (fun j oj hj hji q hq=>by
      refine fun Lx=>hR.apart id j _ oj dG hj (cR hji) q ?_ Lx
      rw [hl];rcases oI.1 hq with rfl|⟨z,hz,VC⟩
      ·exact oI.2 (.inl rfl)
      ·rcases nq hz with hz|rfl
       ·exact oI.2 (.inr ⟨z,hz,VC⟩)
       ·simp [undef,bu] at VC)
    have DR:fM u=u:=by rcases k3.2 with ⟨e1,_⟩|⟨g,cap,cur,e1,_⟩<;>rw [e1]<;>rfl
    have hin:∀g,jH u g→bu u=some g:=fun g hg=>by
     rcases k3.2 with ⟨e1,_⟩|⟨g',cap,cur,e1,_⟩<;>rw [e1] at hg⊢<;>exact iC.1 hg
    have r2:=(r1 (mr_at hl)).new (id:=d) (val:=u) (o:= .row e sz xs) (.inl hd') (by
      refine ⟨cells,by rw [cv];omega,k4,fun g hg=> ?_⟩;rw [cv] at hg;obtain ⟨m1,m2⟩:=k5 g (hin g hg)
      exact ⟨.inl m1,m2⟩) (fun j oj hj hjd g hg=>by
      have XL:=hin g hg;by_cases hji:id=j
      ·subst hji
       rw [cv];intro hb;rcases oI.1 hb with rfl|⟨z,hz,VC⟩
       ·
        rcases k3.2 with ⟨e1,_⟩|⟨g',cap,cur,e1,_,hg',_⟩
        ·rw [e1] at XL;simp [bu] at XL
        ·rw [e1] at XL;simp [bu] at XL;subst XL;rw [hh] at hg';cases hg'
       ·obtain ⟨q,hq,eq⟩:=iL.1 hz
        have hq':(us.set i undef)[q]? =some z:=by grind
        by_cases hqi:q=i
        ·grind [undef,bu]
        grind
      ·simp only [bl _ _ hji] at hj
       rw [cE _ _ (cR hji)]
       exact hR.apart id j _ oj dG hj hji g (by grind [oI]))
    exact hK _ _ _ _ (r2.set (fun i hi=>by injection hi with hi;omega) (JM DR))
   grind
  ·rename_i hf
   split at h
   ·rename_i s0 e' s hz hs
    split at h
    ·injection h with h;subst h
     have MR:=oG hkr hok h1 hf w;have hzr:=Sa hz w
     refine gO (v:= .slice none 0 0) (w':=w) (by
      unfold execOp;rw [ho]
      simp [vB,Instr.lookup,bz hu,iF hh,jg hkr hok,MR,hzr]) ?_
     rw [dc];refine hK _ _ _ _ ((hR.new (.inl hd') ?_ (fun j oj hj hne g hg=>by simp [jH,bu] at hg)).set (fun i hi=>by simp_all) (JM rfl));refine ⟨[],⟨by simp, .inl ⟨cv _ _ _,rfl⟩⟩,rfl,fun g hg=> ?_⟩;simp_all [cv,jH,bu]
    grind
   grind
  grind
 grind
theorem Vk {o:Oper} {t kt et:TypeId} {m k x:Operand} {id:Nat} {key:AV} {k' e:TypeId} {sz:Nat} {ks ks':List AV} {vs vs':List (Option (List (List AV)))} {xs:List (List AV)} {cells:List Value}
  (hR:Rel N w0 μ0 L μ loc st a w) (dc:o.dst=none) (ho:o.op= .mapUpdate t m k x∨o.op= .insert t m k x) (hu:P.underlying t=some (.map kt et)) (vB:a.eval m=fM (loc id)) (hkr:rep μ key (a.eval k)) (hok:jO P kt key=true)
  (dG:st.ob id=some (.mr k' e sz ks vs)) (hid:id<10000) (hput:Cr key (some xs) ks vs=some (ks',vs')) (hrow:w.ownsRow 0 e sz (a.eval x) xs.length cells) (hrc:c4 μ sz xs cells)
  (hg:∀g,bu (a.eval x)=some g→w0.heap.size≤g∧∀j,μ g j=none) (hfree:∀j oj,st.ob j=some oj→∀g,bu (a.eval x)=some g→¬jH (loc j) g)
  (hK:nk N w0 μ0 L { st with ob:=put st.ob id (some (.mr k' e sz ks' vs')) } K):o.uM P a w K Q:=by
 obtain ⟨b,cN,clock,us,hl,hown,hh,tR,h1,h2,h3,h4,h5,h6⟩:=hR.obs id _ dG;have hmv':a.eval m= .map (some b):=by rw [vB,hl];rfl
 cases hf:qb key ks with
 |none=>simp [Cr,hf] at hput
 |some r=>
 obtain ⟨kY,clock',hrun,q1,q2,_⟩:=BG (x:=a.eval x) hu hh hkr hok h1 hf;have hlt:=(eG.1 hh).1;have DR:∀g,jH (a.eval x) g→bu (a.eval x)=some g:=fun g hg=>by
  rcases hrow.2 with ⟨e1,_⟩|⟨g',cap,cur,e1,_⟩<;>rw [e1] at hg⊢<;>exact iC.1 hg
 have Sb:bu (a.eval x)≠some b:=fun e=>by
  rcases hrow.2 with ⟨e1,_⟩|⟨g',cap,cur,e1,_,hg',_⟩
  ·rw [e1] at e;simp [bu] at e
  ·rw [e1] at e;simp [bu] at e;subst e;rw [hh] at hg';cases hg'
 have hnu:∀u∈us,∀g,bu u=some g→bu (a.eval x)≠some g:=fun u hu g XL hgx=>hfree id _ dG g hgx (by rw [hl];exact oI.2 (.inr ⟨u,hu,XL⟩))
 have other:∀(u:Value) (cs:List Value) (ys:List (List AV)),w.ownsRow 0 e sz u ys.length cs→bu u≠some b→World.ownsRow { w with heap:=w.heap.setIfInBounds b (.map kY clock') } 0 e sz u ys.length cs:=fun u cs ys hu hub=>
  lW hu (fun g hg=>by
   have:b≠g:=fun e=>hub (by rw [e];exact hg)
   simp only [];rw [vH this])
 have hub:∀u∈us,bu u≠some b:=fun u hu e=>by
  obtain ⟨i,ys,m1,m2⟩:=Uf h2 h5 hu e;obtain ⟨u',cells',n1,n2,n3,_⟩:=h4 i ys m1;rw [m2] at n1;injection n1 with n1;subst n1
  rcases n3.2 with ⟨e1,_⟩|⟨g',cap,cur,e1,_,hg',_⟩
  ·rw [e1] at e;simp [bu] at e
  ·rw [e1] at e;simp [bu] at e;subst e;rw [hh] at hg';cases hg'
 have fin:∀us',(∀u∈us',u∈us∨u=a.eval x)→mE w0.heap.size L μ (r6 loc id (.tuple (.map (some b)::us').toArray)) { w with heap:=w.heap.setIfInBounds b (.map kY clock') } id (.mr k' e sz ks' vs')→o.uM P a w K Q:=fun us' qW vD=>by
  have r1:=hR.Ws (id:=id) (val:= .tuple (.map (some b)::us').toArray) (g:=b) (w':={ w with heap:=w.heap.setIfInBounds b (.map kY clock') }) dG hl (by rw [hl];rfl) hid (by rw [hl];exact oI.2 (.inl rfl))
   (fun b' hb'=>by simp only [];rw [vH (fun e=>hb' e.symm)]) rfl rfl rfl (by simp) vD (fun j oj hj hji q hq=>by
    rcases oI.1 hq with rfl|⟨z,hz,VC⟩
    ·exact fun Lx=>hR.apart id j _ oj dG hj (cR hji) q (by rw [hl];exact oI.2 (.inl rfl)) Lx
    ·rcases qW z hz with hz|rfl
     ·exact fun Lx=>hR.apart id j _ oj dG hj (cR hji) q (by rw [hl];exact oI.2 (.inr ⟨z,hz,VC⟩)) Lx
     ·exact hfree j oj hj q VC)
  have:((execOp a.eval o).run P w)= .ok .skip { w with heap:=w.heap.setIfInBounds b (.map kY clock') }:=by
   unfold execOp;rcases ho with ho|ho<;>rw [ho]<;>simp [hmv',hrun]
  exact EE this (by rw [dc];exact hK _ _ _ _ (r1 (mr_at hl)))
 cases r with
 |none=>
  simp only [Cr,hf,aG,br] at hput;obtain ⟨rfl,rfl⟩:=hput;obtain ⟨c1,c2⟩:=q1 rfl;have hsize:kY.size=cN.size+1:=by have:=aI List.length c2;simpa using this
  refine fin (us++[a.eval x]) (fun u hu=>by simpa using hu) ⟨b,kY,clock',us++[a.eval x],cv _ _ _,hown,by simp [hlt],tR,c1,by simp [h2],by simp [hsize,h3],fun i ys hi=> ?_,fun i hi=> ?_,fun i j u v hu hv hij g XL hgv=> ?_⟩
  ·by_cases hil:i<vs.length
   ·rw [di hil] at hi
    obtain ⟨u,cs,n1,n2,n3,n4,n5⟩:=h4 i ys hi;exact ⟨u,cs,by rw [di (by omega)];exact n1,by rw [c2,di (by simp;omega)];exact n2,other u cs ys n3 (hub u (aT n1)),n4,n5⟩
   ·rw [gr (by omega)] at hi
    have hi0:i-vs.length=0:=by
     have:=(bD.1 hi).1;simp at this;omega
    rw [hi0] at hi;simp at hi;subst hi;refine ⟨_,_,?_,?_,other _ _ _ hrow Sb,hrc,hg⟩
    ·rw [gr (by omega),h2,hi0];rfl
    ·rw [c2,gr (by simp;omega)];simp [h3,hi0]
  ·grind
  ·have split:∀q z,(us++[a.eval x])[q]? =some z→(us[q]? =some z)∨(q=us.length∧z=a.eval x):=fun q z hz=>by
    by_cases hq:q<us.length
    ·rw [di hq] at hz;exact .inl hz
    ·rw [gr (by omega)] at hz
     have h0 :=by
      have:=(bD.1 hz).1;simp at this;omega
     rw [h0] at hz;simp at hz;exact .inr ⟨by omega,hz.symm⟩
   rcases split i u hu with YQ|⟨e1,e2⟩<;>rcases split j v hv with hv2|⟨e3,e4⟩
   ·exact h6 i j u v YQ hv2 hij g XL hgv
   ·rw [e4] at hgv;exact hnu u (aT YQ) g XL hgv
   ·rw [e2] at XL;exact hnu v (aT hv2) g hgv XL
   ·exact hij (e1.trans e3.symm)
 |some p=>
  simp [Cr,hf] at hput;obtain ⟨rfl,rfl⟩:=hput;obtain ⟨c1,c2,CL⟩:=q2 p rfl;have hsize :=by have:=aI List.length c2;simpa using this
  refine fin (us.set p _) (fun u hu=>nq hu) ⟨b,_,clock',_,cv _ _ _,hown,by simp [hlt],tR,c1,by simp [h2],by grind,fun i ys hi=> ?_,fun i hi=> ?_,fun i j u v hu hv hij g XL hgv=> ?_⟩
  ·grind
  ·grind
  grind
theorem PV {o:Oper} {t:TypeId} {m k x:Operand} (hR:Rel N w0 μ0 L μ loc st a w) (dc:o.dst=none) (ho:o.op= .mapUpdate t m k x∨o.op= .insert t m k x) (h:Ud P st t m k x=some st') (hK:nk N w0 μ0 L st' K):o.uM P a w K Q:=by
 unfold Ud at h;split at h
 ·rename_i et id key k' e sz ks vs hmk
  obtain ⟨kt,hu,hm,hk,dG,hok,hid⟩:=Ah hmk;have vB :=aU hR hm;have hkr:=fC hR hk;split at h
  ·split at h
   ·split at h
    ·split at h
     ·rename_i ks' vs' hput
      injection h with h;subst h
      have hx:a.eval (.const (.slice none 0 0))= .slice _ 0 0:=rfl;exact Vk hR dc ho hu vB hkr hok dG hid hput (by (constructor<;>grind)) rfl (fun g hg=>by simp_all [bu]) (fun j oj _ g hg=>by simp_all [bu]) hK
     grind
    grind
   grind
  ·split at h
   ·rename_i j hx
    split at h
    ·rename_i e' s xs GU
     split at h
     ·rename_i fU
      obtain ⟨rfl,rfl,hj⟩:=fU;split at h
      ·rename_i ks' vs' hput
       injection h with h;subst h
       have hne:id≠j:=fun e=>by simp_all
       have wM :=(aU hR hx).trans (jf (hR.obs j _ GU));obtain ⟨cells,hrow,hrc,hgj⟩:=hR.obs j _ GU;have hob2:(st.dm j).ob id=some (.mr k' e s ks vs):=by simp [St.dm,bl _ _ (cR hne),dG,Ob.dm]
       refine Vk (hR.Hx j) dc ho hu vB hkr hok hob2 hid hput (by simp_all) hrc (fun g hg=> ?_) (fun i oi hi g hg=> ?_) hK
       ·rw [wM] at hg
        obtain ⟨m1,m2⟩:=hgj g (.inl hg);rcases m1 with m1|⟨v,hv,_⟩
        ·simp_all
        ·rw [hR.names j hj] at hv;grind
       ·rw [wM] at hg
        by_cases e:j=i
        ·simp_all [St.dm,cu]
        ·simp [St.dm,bl _ _ e,bS] at hi
         obtain ⟨oi',hi',_⟩:=hi;exact hR.apart j i _ _ GU hi' e g (.inl hg)
      grind
     grind
    grind
   grind
 grind
theorem S9 {o:Oper} {t k e e':TypeId} {s:Nat} {r:Option Operand} {d:Nat} (hR:Rel N w0 μ0 L μ loc st a w) (hd:d<N) (dc:o.dst=some d) (ho:o.op= .makeMap t r) (ht:P.underlying t=some (.map k e))
  (hr:uR P st r=true) (hK:nk N w0 μ0 L ((st.new d (.mr k e' s [] [])).set (some d) (.row d)) K):o.uM P a w K Q:=by
 have hrun:=Ga hR ht hr;refine gO (v:= .map (some w.heap.size)) (w':=w.alloc (.map #[] 0)) (by simp_all [execOp]) ?_;rw [dc];have h1:=(hR.Qm (qL w (.map #[] 0))).new (o:= .mr k e' s [] []) (.inl (eX hd hR.small))
  ⟨_, #[],0,[],cv _ _ _,hR.grown,(by show (w.heap.push _)[w.heap.size]? =_;simp),vi hR _ (aS _),by rfl,rfl,rfl,by simp,by simp,by simp⟩ (fun j oj hj hne g hg=>by
  rcases oI.1 hg with rfl|⟨u,hu,_⟩
  ·intro hb
   have:=((hR.obs j _ hj).block _ hb).2.1;omega
  simp_all)
 exact hK _ _ _ _ (h1.set (fun i hi=>by simp_all) (by show _=fM _;rw [cv];rfl))
theorem Xt {o:Oper} {t:TypeId} {x:Operand} {d:Nat} {s:List UInt8} (hR:Rel N w0 μ0 L μ loc st a w) (hd:d<N) (dc:o.dst=some d) (ho:o.op= .range t x) (ht:P.underlying t=some .string) (hx:(bq P t st x).bind iW =some (.str s))
  (hK:nk N w0 μ0 L ((st.new d (.it s 0)).set (some d) (.ptr d 0)) K):o.uM P a w K Q:=by
 have hv:=fC hR hx;rw [rep] at hv;refine gO (v:= .pointer (some ⟨w.heap.size,0,none⟩)) (w':=w.alloc (.stringIter ⟨s.toArray⟩ 0)) (by simp_all [execOp,Instr.range,bz]) ?_;rw [dc];refine hK _ _ _ _ (hR.made hd (fun g hg=>qy.1 hg) ?_ ?_)
 ·exact ⟨_,cv _ _ _, .inl hR.grown,(by show (w.heap.push _)[w.heap.size]? =_;simp),vi hR _ (aS _)⟩
 ·exact ⟨_,cv _ _ _,rfl⟩
theorem ZL {o:Oper} {x:Operand} {d id pos:Nat} {s:List UInt8} (hR:Rel N w0 μ0 L μ loc st a w) (hd:d<N) (dc:o.dst=some d) (ho:o.op= .next x true) (hx:bq P 0 st x=some (.ptr id 0)) (dG:st.ob id=some (.it s pos))
  (hK:if pos<s.length then nk N w0 μ0 L (St.set { st with ob:=put st.ob id (some (.it s (pos+(Utf8.decode ⟨s.toArray⟩ pos).2))) } (some d) (.pv (.mu [.bool true, .int .i64 pos, .int .i32 (Utf8.decode ⟨s.toArray⟩ pos).1]))) K
   else nk N w0 μ0 L (st.set (some d) (.pv (.mu [.bool false]))) K):o.uM P a w K Q:=by
 obtain ⟨b0,hl0,hv⟩:=aU hR hx;obtain ⟨b,hl,hown,hh,tR⟩:=hR.obs id _ dG;rw [hl] at hl0;simp only [zG,aG,zH,fO] at hl0;subst hl0;have hsz:(⟨s.toArray⟩:ByteArray).size=s.length:=by simp [ByteArray.size]
 have hlt:=(eG.1 hh).1;have og:(getObj b).run P w= .ok (.stringIter ⟨s.toArray⟩ pos) w:=by simp [getObj,Sem.run,hh]
 by_cases hp:pos<s.length
 ·rw [au hp] at hK
  refine gO (v:= .tuple #[.bool true, .int .i64 pos, .int .i32 (Utf8.decode ⟨s.toArray⟩ pos).1]) (w':={ w with heap:=w.heap.setIfInBounds b (.stringIter ⟨s.toArray⟩ (pos+(Utf8.decode ⟨s.toArray⟩ pos).2)) }) (by
   unfold execOp;rw [ho];simp [Instr.next,hv,og,hsz,hp,goInt]
   simp [setObj,Sem.run,hh]) ?_
  rw [dc]
  have r1:=hR.write dG (o':= .it s (pos+(Utf8.decode ⟨s.toArray⟩ pos).2)) (g:=b) (by rw [hl];exact qy.2 rfl) (w':={ w with heap:=w.heap.setIfInBounds b (.stringIter ⟨s.toArray⟩ (pos+(Utf8.decode ⟨s.toArray⟩ pos).2)) }) (fun b' hb'=>by
   simp only [];rw [vH (fun e=>hb' e.symm)]) rfl rfl rfl (by simp) ⟨b,hl,hown,by simp [hlt],tR⟩
  refine hK _ _ _ _ (r1.set (fun i hi=>by injection hi with hi;omega) ?_);show rep μ (.mu _) _;rw [rep];exact ⟨[.bool true, .int .i64 pos, .int .i32 (Utf8.decode ⟨s.toArray⟩ pos).1],rfl,bY (by simp [rep]) (bY (by simp [rep]) (bY (by simp [rep]) ef))⟩
 ·rw [ak hp] at hK
  refine gO (v:= .tuple #[.bool false]) (w':=w) (by
   unfold execOp;rw [ho]
   simp [Instr.next,hv,og,hsz,hp]) ?_
  rw [dc];refine hK _ _ _ _ (hR.set (fun i hi=>by injection hi with hi;omega) ?_);show rep μ (.mu _) _;rw [rep];exact ⟨[.bool false],rfl,bY (by simp [rep]) ef⟩
end
end Go.AM
