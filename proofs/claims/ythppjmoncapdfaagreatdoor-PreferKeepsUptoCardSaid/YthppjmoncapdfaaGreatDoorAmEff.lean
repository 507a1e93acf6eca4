/- THE ABSTRACT MACHINE. -/
import Derived.Test.YthppjmoncapdfaaGreatDoorAmStep
set_option linter.all false
open List (replicate)
namespace Go.AM
open Go.RowKit
section
variable {μ μ':Mu} {loc:Nat->Value}
theorem tJ {B b:Nat} {xs:List (List AV)} {vs:List Value} {l:Nat} (h:c4 μ B xs vs) (q:μ.le μ') (G:∀j u,vs[j]? =some u->μ' b (l+j)=some u):kJ μ' B b xs l:=by induction xs generalizing vs l with
 |nil=>simp[kJ]
 |cons x xs I=>
  obtain⟨O,ws,rfl,z,D,F⟩:=h;refine⟨⟨O,(z.mono q).1,z.2,D,λj u H=>G j u ?_⟩,I F λj u H=> ?_⟩
  .grind
  simp_all[ga,kZ]
def nE {q:Nat} {xs B:List (List AV)} {l z:List Value} (h:c4 μ q xs l) (k:c4 μ q B z):c4 μ q (xs++B) (l++z):=by induction xs generalizing l with
 |nil=>have:l=[]:=h;simp_all
 |cons x xs H=>obtain⟨a,b,rfl,D,F,G⟩:=h;exact⟨a,_,by simp,D,F,H G⟩
def qq {sz:Nat} {z:List AV} {l:List Value} (h:j8 μ z l) (q:l.length=sz):∀n,c4 μ sz (replicate n z) (replicate n l).flatten
 |0=>rfl
 |n+1=>⟨l,_,by rfl,h,q,qq h q n⟩
def zc {z:Nat}:∀(n:Nat) {l:List AV} {q:List Value},j8 μ l q->l.length=n *z->c4 μ z (chunks z n l) q
 |0,l,q,h,B=>by have :=kY (by rw[h.length];omega);assumption
 |n+1,l,q,h,B=>by rw[kj] at B;have D:=h.length;exact⟨_,_,by simp,h.take _,by simp;omega,zc n (h.drop _) aF⟩
def D5 {z:List AV} {l:List Value} (h:j8 μ z l):∀n,j8 μ (tj z n) (replicate n l).flatten
 |0=>⟨dg,ah⟩
 |n+1=>by simpa[tj,vw] using h.append (D5 h n)
theorem zb (z:List AV):∀n,(tj z n).length=n *z.length
 |0=>by simp[tj]
 |n+1=>by simp[tj,zb z n,kj];omega
def Bu (q:Nat):∀(n:Nat) (l:List AV),(chunks q n l).length=n
 |0,_=>rfl
 |n+1,l=>by simp[chunks,Bu _ n]
def jG {id:Nat} {s:SV} {v:Value} (k:gH μ loc s v):gH μ loc (s.dG id) v:=by unfold SV.dG;cases s.mentions _ with
 |true=>trivial
 |false=>exact k
def NT {id:Nat} {s:SV} {v:Value} {x:AV} (k:gH μ loc s v) (l:rep μ x (fH (loc id))):gH μ loc (s.dL id x) v:=by cases s with
 |row j=>cases h:Nat.beq j id with
  |true=>simp[SV.dL,h];have:=beq_iff.1 h;subst this;have e :=k;rw[e];exact l
  |false=>simp_all[SV.dL]
 |_=>exact jG k
def rowS' {id:Nat} {v u:Value} (h:fH v=u):gH μ (rQ loc id v) (.row id) u:=by show u=fH _;rw[cv,h]
def Jw {id:Nat} {v:Value} (h:fH v=v):gH μ (rQ loc id v) (.row id) v:=by show v=fH _;rw[cv,h]
theorem uu (l:Array Value) (s:Nat) (F:l.size=s) (D:0<s) (n:Nat):(madeCells l (n *s)).toList=(replicate n l.toList).flatten:=by
 have key:∀n,(List.range (n *s)).map (λi=>l[i % s]!)=(replicate n l.toList).flatten:=by intro n;induction n with
  |zero=>simp
  |succ n G=>
   rw[sU,sV,List.range_add];have q:(List.range s).map (λi=>l[i % s]!)=l.toList:=by
    apply kq;intro i;by_cases B:i<s
    .simp_all[sW]
    .simp_all
   have z:((λi=>l[i % s]!)∘λx=>s+x)=λi=>l[i % s]! :=by funext i;simp
   grind
 simp_all[madeCells]
theorem Pm (q:List Value) {l c:Nat} (h:l<=c):(replicate c q).flatten.take (l *q.length)=(replicate l q).flatten:=by obtain⟨d,rfl⟩:=Nat.exists_eq_add_of_le h;rw[<-List.replicate_append_replicate,List.flatten_append];simp_all[gd]
end
section
variable {P:Program} {N:Nat} {w0:World} {μ0:Mu} {L:rV} {μ:Mu} {loc:Nat->Value} {st st':St} {a:Act} {w:World} {Q:Exit->Act->World->Prop} {K:Act->World->Prop}
theorem As {e G:Nat} {xs:List (List AV)} {u:Value} {cells:List Value} (l:w.ownsRow 0 e G u xs.length cells) (z:c4 μ G xs cells) {μ':Mu} (D:μ.le μ')
  (R:∀b j v,bC u=some b->ED w b j=some v->μ' b j=some v):rep μ' (.dK G xs) u:=by
 have q:=lI z;rw[rep];rcases l.2 with⟨e1,S⟩|⟨g,I,O,e1,_,U,F,B,_⟩
 .grind
 .refine⟨_,_,e1,F,B, .inr ⟨g,0,rfl,tJ z D λj u H=> ?_⟩⟩;have:=l.cells (by rw[e1];rfl) j u H;rw[add_lit] at this;exact R g _ u (by rw[e1];rfl) (tu this (q u (aI H)))
def zL {z:Type}:∀{q:List (Option z)} {l:List z},oS q=some l->q=l.map some
 |[],l,h=>by simp_all[oS]
 |none::q,l,h=>by simp[oS] at h
 |some x::q,l,h=>by simp[oS,bZ] at h;obtain⟨D,B,rfl⟩:=h;simp[zL B]
def Js {l:List AV}:∀{k:Nat} {q:List Value} {u:Value} {a:AV},cn μ l q->q[k]? =some u->rep μ a u->cn μ (l.set k a) q:=by induction l with
 |nil=>simp_all
 |cons c l H=>intro k q u a h D B;obtain⟨v,F,rfl,G,z⟩:=h;cases k with
  |zero=>simp at D;subst D;exact⟨v,F,rfl,B,z⟩
  |succ k=>exact⟨v,F,rfl,G,H z (by assumption) B⟩
def ze {k F D:Nat} {μ':Mu} (B:μ.le μ') (S:k<F):∀{xs:List (List AV)} {l:List (List (List AV))} {z:List Value},c4 μ F xs z->xs.length=l.length->
  (∀(i:Nat) G,l[i]? =some G->∃u,z[i *F+k]? =some u/\rep μ' (.dK D G) u)->c4 μ' F (wG k D xs l) z
 |[],[],z,h,_,_=>h
 |[],_::_,z,_,h,_=>by simp at h
 |_::_,[],z,_,h,_=>by simp at h
 |x::xs,y::l,z,⟨us,ws,e,H,O,R⟩,hl,q=>by subst e;obtain⟨u,I,U⟩:=q 0 y ah;rw[zH,gy,dD af] at I;refine⟨us,ws,rfl,⟨Js (fE B _ _ H.1) I U,H.2⟩,O,ze B S R (by simp_all) λi G hi=> ?_⟩;obtain⟨u2,YZ,V⟩:=q (i+1) _ (by assumption);grind
def BQ {k q:Nat}:∀{xs:List (List AV)} {l:List (List (List AV))},xs.length=l.length->(wG k q xs l).length=xs.length
 |[],[],_=>rfl
 |[],_::_,h=>by simp at h
 |_::_,[],h=>by simp at h
 |x::xs,y::l,h=>by simp[wG,BQ (xs:=xs) (l:=l) (by simp_all)]
def Po {n0:Nat} {id:Nat} {o:Ob} {v:AV} (h:lU n0 L μ loc w id o) (z:o.val=some v) {μ':Mu} (q:μ.le μ')
  (U:∀b j v,jw (loc id) b->ED w b j=some v->μ' b j=some v):rep μ' v (fH (loc id)):=by
 cases o with
 |box t cells=>simp[Ob.val] at z
 |it s n=>simp[Ob.val] at z
 |lp s=>simp[Ob.val] at z
 |row e sz xs=>simp only[Ob.val,aN] at z;subst z;rw[iS h];obtain⟨vs,G,O,_⟩:=h;exact As G O q (λb j v hb=>U b j v (.inl hb))
 |mp k e ks B=>simp only[Ob.val,aN] at z;subst z;rw[Vw h];obtain⟨b,cN,H,F,_,hh,_,h1,h2,_⟩:=h;rw[rep,F];exact .inr ⟨b,_,_,rfl,fE q _ _ h1,fE q _ _ h2,U b 0 _ (by rw[F];exact ur.2 rfl) (JE hh)⟩
 |mr k e sz ks vs=>
  simp only[Ob.val,bZ] at z;obtain⟨l,I,rfl⟩:=z;obtain⟨b,cN,H,us,F,_,hh,_,h1,h2,h3,h4,h5,h6⟩:=h;have R:=zL I;rw[F,rep];refine .inr ⟨b,_,cN.toList.map (·.val),rfl,fE q _ _ h1,?_,U b 0 _ (by rw[F];exact oh.2 (.inl rfl)) (JE hh)⟩;have key:∀(l:List (List (List AV))) (B:List Value),B.length=l.length->(∀(i:Nat) xs,l[i]? =some xs->∃u,B[i]? =some u/\rep μ' (.dK sz xs) u)->cn μ' (l.map (.dK sz)) B:=by intro l;induction l with
   |nil=>intro B he _;rw[kY he];exact dg
   |cons x l ih=>intro B he D;cases B with
    |nil=>simp at he
    |cons u B=>
     obtain⟨u',V,hr⟩:=D 0 x ah;simp at V;subst V
     exact bN hr (ih B (by simpa using he) (λi xs hi=>by
      obtain⟨u2,YZ,VY⟩:=D (i+1) xs (by assumption)
      exact⟨u2,by simpa using YZ,VY⟩))
  refine key l _ (by simp[h3,R]) (λi xs hi=> ?_);obtain⟨u,cells,k1,k2,k3,k4,k5⟩:=h4 i xs (by rw[R];simp[hi]);exact⟨u,k2,As k3 k4 q (λg j v hg=>U g j v (by rw[F];exact oh.2 (.inr ⟨u,aI k1,hg⟩)))⟩
 |rn e sz k e' sz' xs ys=>
  simp[Ob.val,bZ] at z;obtain⟨l,I,rfl⟩:=z;obtain⟨m,us,vs,F,_,G,O,hk,h2,h3,h4,h5,h6,h7⟩:=h;have R:=zL I;have S:xs.length=l.length:=by simp_all
  rw[F];show rep _ _ m;refine As (by rw[BQ S];omega) (ze q hk.1 O S λi zs hi=> ?_) (Mu.le.refl _) λb j v hb hs=>U b j v (by simp_all[jP]) hs
  obtain⟨u,cells,k1,k2,k3,k4,k5⟩:=h4 i zs (by simp_all);grind[As,jP]
open Classical in
noncomputable def rE (w:World) (loc:Nat->Value) (id:Nat) (μ:Mu):Mu:=λb j=>if jw (loc id) b then ED w b j else μ b j
def Rel.ac8 (B:Rel N w0 μ0 L μ loc st a w) {id:Nat} {o:Ob} (H:st.ob id=some o) (hlt:id<10000) (f:SV->SV) (g:Ob->Ob) (hf:∀s v,gH (rE w loc id μ) loc s v->gH (rE w loc id μ) loc (f s) v)
  (hg:∀ob,g ob=match ob with| .box t cells=> .box t (cells.map f)|o=>o):
  μ.le (rE w loc id μ)/\Rel N w0 μ0 L (rE w loc id μ) loc { env:=λi=>(st.env i).map f,ob:=put (λi=>(st.ob i).map g) id none } a w:=by
 have I:=B.obs _ _ H;have hfs:∀(F) (R),iF (rE w loc id μ) loc F R->iF (rE w loc id μ) loc (F.map f) R:=by intro F;induction F with
  |nil=>simp
  |cons c F ih=>rintro R ⟨u,us,e,l,h2⟩;exact⟨u,us,e,hf _ _ l,ih _ h2⟩
 have G:μ.le (rE w loc id _):=λb j v D=>by
  by_cases z:jw (loc id) b
  .have:=(I.block b z).2.2 j;simp_all
  .simpa[rE,z] using D
 have U:∀i O,i≠id->st.ob i=some O->∀b,jw _ b->∀j,rE w loc id _ b j=none:=λi O hne q b z j=>by
  have hn :=λhid=>B.apart _ i _ _ H q (λe=>hne e.symm) b hid z
  simp[rE,au hn];exact(B.obs i _ q).block b z|>.2.2 j
 have l:=(B.drop id).world G (λb j v D=>by
   by_cases z:jw (loc id) b
   .rcases(I.block b z).1 with S|⟨v,S,_⟩
    .omega
    .rw[B.names _ hlt] at S;grind
   simp_all[rE]) (λb j v D=>by
   by_cases z:jw (loc id) b
   .simpa[rE,z] using D
   .exact B.uy b j v (by simpa[rE,z] using D)) (λi O q b z=>by
   grind[cu,bu]) (λ_ _ _=>rfl) rfl rfl rfl (aU _)
 refine⟨G,l.small,l.names,l.fix,l.size,l.defers,?_,l.uy,l.base,?_,?_,l.keep,l.os,l.tape,l.output,l.grown,l.drawn⟩
 .intro i s q;cases he:st.env i with
  |none=>simp_all
  |some s'=>simp[he] at q;subst q;obtain⟨v,D,hr⟩:=l.env i _ he;simp_all
 .intro i O q;by_cases V:id=i
  .simp_all[cu]
  .simp[bu _ _ V] at q;cases ho:st.ob i with
   |none=>simp_all
   |some oj=>simp[ho] at q;subst q;have k:=l.obs i oj (by simp_all[bu]);rw[hg];cases oj with
    |box t cells=>obtain⟨b,R,hl,ho',S,hm,hs,h1'⟩:=k;exact⟨b,R,hl,ho',S,hm,hfs _ _ hs,h1'⟩
    |row e2 sz2 xs2=>exact k
    |mp k2 e2 ks2 vs2=>exact k
    |mr k2 e2 s2 ks2 vs2=>exact k
    |it s2 n2=>exact k
    |lp s2=>exact k
    |rn e2 s2 k2 e3 s3 x2 y2=>exact k
 .intro i j O oj q hj hij;have get:∀k ok,put (λi=>(st.ob i).map g) id none k=some ok->∃ok',st.ob k=some ok':=λk ok hk=>by
   by_cases V:id=k
   .simp_all
   .simp[bu _ _ V] at hk;cases ho:st.ob k with
    |none=>simp_all
    |some x=>simp
  obtain⟨oi',hi'⟩:=get i _ q;obtain⟨oj',hj'⟩:=get j _ hj;exact B.apart i j _ _ hi' hj' hij
def ac4 {id:Nat} (h:w8 id=true):id<10000:=by simp_all[w8]
def Rel.dL (I:Rel N w0 μ0 L μ loc st a w) {id:Nat} (h:st.dL id=some st'):∃μ',μ.le μ'/\Rel N w0 μ0 L μ' loc st' a w:=by
 unfold St.dL at h;split at h
 .rename_i v G q;injection h with h;subst h;obtain⟨o,l,D⟩:=dM.1 q;have z:=I.obs _ _ l;have H:μ.le (rE w loc id _):=λb j v S=>by
   by_cases F:jw (loc id) b
   .have:=(z.block b F).2.2 j;simp_all
   .simpa[rE,F] using S
  have B :=Po z D H λb j v F O=>by simpa[rE,F] using O
  exact⟨_,I.ac8 l (ac4 G) _ _ (λs u R=>NT R B) (λU=>by rfl)⟩
 grind
def Rel.pR (F:Rel N w0 μ0 L μ loc st a w) {id:Nat} (h:st.pR id=some st'):∃μ',μ.le μ'/\Rel N w0 μ0 L μ' loc st' a w:=by
 unfold St.pR at h;split at h
 .rename_i t cells H z;split at h
  .rename_i cs G;injection h with h;subst h;obtain⟨b,vs,U,ho,hh,hm,l,S⟩:=F.obs _ _ z;have I:μ.le (rE w loc id μ):=λR j v hv=>by
    by_cases hb:jw (loc id) R
    .have:=((F.obs _ _ z).block _ hb).2.2 j;simp_all
    simp_all[AM.rE]
   have hc:j8 _ _ _:=⟨fE I _ _ (FE G l),S⟩
   refine⟨_,F.ac8 z (ac4 H) _ _ (λs u l=> ?_) (λob=>by rfl)⟩;cases s with
   |ptr j O=>simp[SV.pR];cases hj:Nat.beq j _ with
    |false=>exact l
    |true=>
     have:=beq_iff.1 hj;subst this;obtain⟨R,D,rfl⟩:=l;rw[U] at D;obtain⟨rfl,_⟩:=D;refine⟨b,_,_,rfl,hc.drop _,λk u V=> ?_⟩;rw[vr] at V;have e:jw (loc j) b:=by rw[U];exact qd.2 rfl
     simp[AM.rE,az e];exact tu (by rw[cell_of_row w b _ _ t _ hh];simp_all) (S u (aI V))
   |undef=>assumption
   |any=>assumption
   |pv x=>assumption
   |row j=>exact jG l
   |rp j sz i O=>exact jG l
   |sub j sz lo hi=>exact jG l
   |cp c=>assumption
   |cl f B=>exact jG l
   |ag B=>exact jG l
   |aq j q=>exact jG l
   |two s b=>exact jG l
  grind
 grind
def KP (S:Rel N w0 μ0 L μ loc st a w):∀{xs:List Operand} {st st':St} {μ:Mu},Rel N w0 μ0 L μ loc st a w->vR st xs=some st'->∃μ',μ.le μ'/\Rel N w0 μ0 L μ' loc st' a w:=by intro xs;induction xs with
 |nil=>grind[vR,Mu.le.refl]
 |cons x xs B=>intro st st' μ h l;cases x with
  |tmp i=>
   simp[vR] at l;split at l
   .rename_i id H U;cases G:st.pR id with
    |none=>simp_all
    |some I=>rw[G] at l;obtain⟨O,q,D⟩:=h.pR G;obtain⟨R,z,F⟩:=B D l;exact⟨_,q.trans z,F⟩
   grind
  |const v=>exact B h l
  |func f=>exact B h l
  |global g=>exact B h l
def Wd (F:Fence):Prop:=F.plain=Fence.wide
def Wd.fn {F:Fence} (h:Wd F) (f:FuncId):F.fn f:=by
 have:F.plain.fn=Fence.wide.fn:=aK _ h
 have:F.fn=Fence.wide.fn:=this
 rw[this];trivial
def Wd.depth {F:Fence} (h:Wd F):F.depth=none:=by
 have:F.plain.depth=Fence.wide.depth:=aK _ h
 exact this
def Wd.one {F:Fence} (h:Wd F) {p:Prop}:F.depth.isSome=true->p:=λe=>by rw[h.depth] at e;cases e
def Wd.plain {F:Fence} (h:Wd F) (l:F.round=none):F=Fence.wide:=by have:=h;unfold Wd Fence.plain at this;rw[<-l] at this;omega
def Wd.wide:Wd Fence.wide:=rfl
end
end Go.AM
namespace Go
def Oper.uB (P:Program) (o:Oper) (a:Act) (w:World) (K:Act->World->Prop) (Q:Exit->Act->World->Prop):Prop:=∀F,AM.Wd F->o.wpIn F 0 P a w K Q
end Go
namespace Go.AM
open Go.RowKit
section
variable {P:Program} {N:Nat} {w0:World} {μ0:Mu} {L:rV} {μ:Mu} {loc:Nat->Value} {st st':St} {a:Act} {w:World} {Q:Exit->Act->World->Prop} {K:Act->World->Prop}
def Kw {o:Oper} {x:Next} {w':World} (l:∀c,o.op≠ .defer c) (z:(execOp a.eval o).run P w= .ok x w') (h:∀F,Wd F->o.uponIn F 0 P a K Q (.ok x w')):o.uB P a w K Q:=λF q=>by unfold Oper.wpIn;rw[Oper.semAt_eq _ _ _ l,z];exact⟨λf _=>q.fn f,h F q⟩
def EA {o:Oper} {w':World} (l:(execOp a.eval o).run P w= .ok .skip w') (q:K (a.put o.dst undef) w'):o.uB P a w K Q:=
 Kw (λc B=>by unfold execOp at l;cases D:(resolve a.eval c o.type).run P w with
  |ok d z=>simp_all
  |halt e z=>simp_all) l λ_ _=>q
def gI {o:Oper} {v:Value} {w':World} (l:(execOp a.eval o).run P w= .ok (.value v) w') (q:K (a.put o.dst v) w'):o.uB P a w K Q:=
 Kw (λc B=>by unfold execOp at l;cases D:(resolve a.eval c o.type).run P w with
  |ok d z=>simp_all
  |halt e z=>simp_all) l λ_ _=>q
def mM (N:Nat) (w0:World) (μ0:Mu) (L:rV) (st':St) (K:Act->World->Prop):Prop:=∀q z μ' l,Rel N w0 μ0 L μ' l st' q z->K q z
def oy (z:Rel N w0 μ0 L μ loc st a w) {o:Oper} {l:SV} (B:∀i,o.dst=some i->i<N) (D:nQ P μ loc o l a w) (q:mM N w0 μ0 L (st.set o.dst l) K):o.uB P a w K Q:=by obtain⟨v,F,G⟩:=D;exact gI F (q _ _ _ _ (z.set B G))
def u9 (l:Rel N w0 μ0 L μ loc st a w):∀b,w.heap.size<=b->∀j,μ b j=none:=λb z j=>by cases q:μ b j with
 |none=>rfl
 |some v=>have:=lQ (l.uy b j v q);omega
def qD (w:World) (o:Obj):Below w.heap.size w (w.alloc o):=(iZ _ _).alloc (aU _) o
def Rel.made (q:Rel N w0 μ0 L μ loc st a w) {d:Nat} (G:d<N) {x:Obj} {val:Value} {o:Ob} {B:SV} (l:∀g,jw val g->g=w.heap.size)
  (z:lU w0.heap.size L μ (rQ loc d val) (w.alloc x) d o) (R:gH μ (rQ loc d val) B val):
  Rel N w0 μ0 L μ (rQ loc d val) ((st.new d o).set (some d) B) (a.put (some d) val) (w.alloc x):=by
 have D:=(q.QE (qD w x)).new (.inl (eO G q.small)) z (λj U I O g H=>by
  have:=l g H;intro F;have:=((q.obs j _ I).block _ F).2.1
  omega)
 exact D.set (λi S=>by simp_all) R
def Rel.made' (q:Rel N w0 μ0 L μ loc st a w) {d:Nat} (G:d<N) {x:Obj} {val u:Value} {o:Ob} {B:SV} (l:∀g,jw val g->g=w.heap.size)
  (z:lU w0.heap.size L μ (rQ loc d val) (w.alloc x) d o) (R:gH μ (rQ loc d val) B u):
  Rel N w0 μ0 L μ (rQ loc d val) ((st.new d o).set (some d) B) (a.put (some d) u) (w.alloc x):=by
 have D:=(q.QE (qD w x)).new (.inl (eO G q.small)) z (λj U I O g H=>by
  have:=l g H;intro F;have:=((q.obs j _ I).block _ F).2.1
  omega)
 exact D.set (λi S=>by simp_all) R
def Du {o:Oper} {t:TypeId} {d:Nat} {v:Value} {cells:List SV} (q:Rel N w0 μ0 L μ loc st a w) (D:d<N) (l:o.dst=some d)
  (F:(execOp a.eval o).run P w= .ok (.value (.pointer (some ⟨w.heap.size,0,none⟩))) (w.alloc (.cells v.cells t)))
  (G:iF μ (rQ loc d (.pointer (some ⟨w.heap.size,0,none⟩))) cells v.cells.toList) (z:∀u∈v.cells.toList,u.oneCell'=true)
  (B:mM N w0 μ0 L ((st.new d (.box t cells)).set (some d) (.ptr d 0)) K):o.uB P a w K Q:=by
 refine gI F ?_;rw[l];refine B _ _ _ _ (q.made D (by simp[jw,bC]) ?_ ?_)
 .refine⟨_,_,cv _ _ _, .inl q.grown,?_,u9 q _ (aU _),G,z⟩;exact sX w _
 .exact⟨_,cv _ _ _,rfl⟩
def UK (S:Rel N w0 μ0 L μ loc st a w) {s:SV} {v:Value} (h:rB st s=true) (k:gH μ loc s v):v.oneCell'=true/\v.cells= #[v]:=by cases s with
 |undef=>simp[rB] at h
 |any=>simp[rB] at h
 |pv x=>cases x with
  |agg O=>simp[rB] at h
  |lR O=>simp[rB] at h
  |self n=>simp[gH,rep] at k
  |DQ=>subst k;exact⟨rfl,rfl⟩
  |qm=>subst k;exact⟨rfl,rfl⟩
  |hole=>assumption
  |bool b=>subst k;exact⟨rfl,rfl⟩
  |int q n=>subst k;exact⟨rfl,rfl⟩
  |str q=>subst k;exact⟨rfl,rfl⟩
  |dK G xs=>obtain⟨A,c,rfl,_⟩:=k;exact⟨rfl,rfl⟩
  |fn f B=>obtain⟨F,rfl,_⟩:=k;exact⟨rfl,rfl⟩
  |ref O=>obtain⟨b,D,F,rfl,_⟩:=k;exact⟨rfl,rfl⟩
  |mp ks es=>rcases k with⟨rfl,_⟩|⟨b,kv,ev,rfl,_⟩<;>exact⟨rfl,rfl⟩
 |ptr id D=>obtain⟨b,_,rfl⟩:=k;exact⟨rfl,rfl⟩
 |row id=>
  simp[rB] at h;split at h
  .rename_i e G xs l;obtain⟨F,z,_⟩:=S.obs _ _ l;have e :=k;rcases z.2 with⟨e1,_⟩|⟨g,H,R,e1,_⟩<;>(rw[e,e1];exact⟨rfl,rfl⟩)
  .rename_i k' V ks F l;obtain⟨b,cN,I,U,_⟩:=S.obs _ _ l;have e :=k;rw[e,U];exact⟨rfl,rfl⟩
  .rename_i V G q e2 s2 xs ys l;obtain⟨m,us,F,U,_,z,_⟩:=S.obs _ _ l;have e:v=m:=(k).trans (by rw[U];rfl);rcases z.2 with⟨e1,_⟩|⟨g,H,R,e1,_⟩<;>(rw[e,e1];exact⟨rfl,rfl⟩)
  grind
 |rp id G i D=>obtain⟨g,n,c,_,rfl⟩:=k;exact⟨rfl,rfl⟩
 |sub id G lo hi=>simp[rB] at h
 |two s b=>simp[rB] at h
 |cp O=>obtain⟨b,D,F,rfl,_⟩:=k;exact⟨rfl,rfl⟩
 |cl f B=>obtain⟨F,rfl,_⟩:=k;unfold clV;cases Nat.blt f _ with
  |true=>exact⟨rfl,rfl⟩
  |false=>cases Nat.blt f _ with
   |true=>exact⟨rfl,rfl⟩
   |false=>split<;>exact⟨rfl,rfl⟩
 |ag B=>simp[rB] at h
 |aq j q=>simp[rB] at h
def r9 {loc:Nat->Value}:∀{caps:List pY} {l:List Value},j9 μ loc caps l->iF μ loc (caps.map H8) l
 |[],l,h=>h
 |c::D,l,⟨u,B,e,q,z⟩=>by refine⟨u,B,e,?_,r9 z⟩;cases c with
  |v a=>exact q
  |p id=>exact q
  |r id=>exact q
def Nh (hR:Rel N w0 μ0 L μ loc st a w) {t:TypeId} {len:Nat} {l:Array (Nat×Operand)} {e:TypeId} {s:Nat} {xs:List (List AV)} (h:kD P t len l.toList st=some (e,s,xs)):
  ∃vs:List Value,(Instr.buildSlice t len (l.map λp=>(p.1,a.eval p.2))).run P w= .ok (.slice (some ⟨w.heap.size,0,none⟩) len len) (w.alloc (.cells vs.toArray e))/\c4 μ s xs vs/\xs.length=len/\len<=maxLen/\0<s:=by
 unfold kD at h;split at h
 .rename_i e' B hs;obtain⟨hu,inf,q,O⟩:=gw hs;split at h
  .rename_i z G hz hps;split at h
   .rename_i hc;obtain⟨I,D,hzl,hnt⟩:=hc;cases hf:wP (λi=>some (i *B,B)) (tj z len) G with
    |none=>simp_all
    |some S=>
     simp[hf] at h;obtain⟨rfl,rfl,rfl⟩:=h;obtain⟨i,v,U,hv,H⟩:=qb (μ:=μ) hz;rw[q] at U;injection U with U;subst U;obtain⟨h1,h2⟩:=wD hR hps;have hzc :=by have:=H.length;simpa[hzl] using this
     obtain⟨ws,R,hr⟩:=B3 (us:=l.toList.map λp=>(p.1,a.eval p.2)) hf (D5 H _) (by simp_all) (by simp_all[ko]) (λp hp x e=>by
      have:=cz.1 hnt p hp
      rw[e] at this;cases this)
     have vp:S.length=len *B:=by
      have key:∀(G) (cells S),wP (λi=>some (i *B,B)) cells G=some S->S.length=cells.length:=by intro G;induction G with
       |nil=>simp_all[wP]
       |cons p G ih=>grind[wP]
      grind[zb]
     refine⟨ws,?_,zc _ hr vp,Bu _ _ _,by simp[maxLen];have:len *1<=len *B:=FB _ D;omega,D⟩;have F:(replicate len v.cells.toList).flatten.toArray=madeCells v.cells (len *B):=by grind[uu]
     rw[F] at R;by_cases V:len *B=0
     .have e0:madeCells v.cells (len *B)= #[]:=by rw[V];simp[madeCells]
      rw[e0] at R;simp[Instr.buildSlice,bJ hu,sizeOf,typeInfo,q,O,V,R,newRow,Array.range_zero']
     .simp[madeCells] at R;simp[Instr.buildSlice,bJ hu,sizeOf,typeInfo,q,O,V,zeroValue,hv,R,newRow,I]
   grind
  grind
 grind
def Mw {o:Oper} {t:TypeId} {len:Nat} {l:Array (Nat×Operand)} {d e s:Nat} {xs:List (List AV)} (D:Rel N w0 μ0 L μ loc st a w) (R:d<N) (B:o.dst=some d) (S:o.op= .buildSlice t len l)
  (h:kD P t len l.toList st=some (e,s,xs)) (O:mM N w0 μ0 L ((st.new d (.row e s xs)).set (some d) (.row d)) K):o.uB P a w K Q:=by
 obtain⟨I,U,q,z,G,H⟩:=Nh D h;refine gI (v:= .slice (some ⟨w.heap.size,0,none⟩) len len) (w':=w.alloc (.cells I.toArray e)) (by simp_all[execOp]) ?_;rw[B];refine O _ _ _ _ (D.made R (by simp[jw,bC]) ?_ (Jw rfl));refine⟨I,⟨by rw[dm q], .inr ⟨_,_,_,?_,cZ _,sX w _,by omega,G,?_,?_⟩⟩,q,λg F=> ?_⟩
 .rw[cv,z]
 .grind[dm]
 .rw[z,<-z,<-dm q];simp
 .rw[cv] at F;simp[jw,bC] at F;subst F;exact⟨.inl D.grown,u9 D _ (aU _)⟩
def yF {k:Nat} {c:List AV} (h:qe k c=true):c[k]? =some .qm:=by grind[qe]
def vm {q k:Nat}:∀{xs:List (List AV)} {z:List Value},c4 μ q xs z->xs.all (qe k)=true->k<q->c4 μ q (xs.map λc=>c.set k .hole) z/\∀i,i<xs.length->z[i *q+k]? =some (.slice none 0 0)
 |[],z,h,_,_=>⟨h,λi D=>by simp at D⟩
 |x::xs,z,⟨F,ws,e,B,G,H⟩,l,I=>by subst e;simp only[gP,aJ] at l;have S:=yF l.1;obtain⟨U,V⟩:=vm H l.2 I;obtain⟨v,R,O⟩:=sw B.1 S;subst O;refine⟨⟨F,ws,rfl,⟨Js B.1 R (by simp[rep,Value.oneCell',Value.cells]),B.2⟩,G,U⟩,λi D=> ?_⟩;cases i with
  |zero=>grind
  |succ i=>rw[ga (by grind),show(i+1) *q+k-F.length=i *q+k by grind];simp_all
def KF {o:Oper} {t:TypeId} {len:Nat} {l:Array (Nat×Operand)} {d e s k e' s':Nat} {xs:List (List AV)} (R:Rel N w0 μ0 L μ loc st a w) (hd:d<N) (G:o.dst=some d) (ho:o.op= .buildSlice t len l)
  (h:kD P t len l.toList st=some (e,s,xs)) (hk:k<s) (B:xs.all (qe k)=true) (hK:mM N w0 μ0 L ((st.new d (.rn e s k e' s' (xs.map λc=>c.set k .hole) (xs.map λ_=>some []))).set (some d) (.row d)) K):o.uB P a w K Q:=by
 obtain⟨vs,hr,D,O,hml,hpos⟩:=Nh R h;obtain⟨I,H⟩:=vm D B hk;refine gI (v:= .slice (some ⟨w.heap.size,0,none⟩) len len) (w':=w.alloc (.cells vs.toArray e)) (by simp_all[execOp]) ?_;rw[G];have hown:(w.alloc (.cells vs.toArray e)).ownsRow 0 e s _ _ _:=
  ⟨by rw[dm D,O], .inr ⟨_,_,_,rfl,cZ _,sX w _,by omega,hml,by grind[dm],by rw[<-O,<-dm D];simp⟩⟩
 refine hK _ _ _ _ (R.made' (val:= .tuple (.slice _ _ _::xs.map λ_=> .slice none 0 0).toArray) hd (λg z=> ?_) ?_ (rowS' rfl))
 .rcases jP.1 z with z|⟨u,F,z⟩
  .simp_all[bC]
  .obtain⟨c,_,rfl⟩:=aD.1 F;simp[bC] at z
 .refine⟨_,_,vs,cv _ _ _,λq hq=> ?_,by simp_all,I,⟨hk,λc S=> ?_⟩,by simp,by simp,λi zs V=> ?_,λi V=> ?_,λu F g z=> ?_,λi j u v F hv hij g z=> ?_⟩
  .simp[bC] at hq;subst hq;exact⟨.inl R.grown,u9 R _ (aU _)⟩
  .obtain⟨c',U,rfl⟩:=aD.1 S;have:=yF (cz.1 B _ U);grind
  .simp only[dF,bZ] at V;obtain⟨c,S,e1⟩:=V;simp at e1;subst e1;exact⟨_,[],by simp[S],H i (bF.1 S).1,⟨ah, .inl ⟨rfl,rfl⟩⟩,rfl,λg z=>by simp[bC] at z⟩
  .simp_all
  .obtain⟨c,_,rfl⟩:=aD.1 F;simp[bC] at z
  .simp at F;obtain⟨c,_,rfl⟩:=F;simp[bC] at z
theorem TF {o:Oper} {t:TypeId} {len:Nat} {l:Array (Nat×Operand)} {e s:Nat} {xs:List (List AV)} (z:Rel N w0 μ0 L μ loc st a w) (U:∀i,o.dst=some i->i<N) (ho:o.op= .buildSlice t len l)
  (h:kD P t len l.toList st=some (e,s,xs)) (S:mM N w0 μ0 L (st.set o.dst (.pv (.dK s xs))) K):o.uB P a w K Q:=by
 obtain⟨H,hr,G,hxl,V,O⟩:=Nh z h;refine gI (v:= .slice (some ⟨w.heap.size,0,none⟩) len len) (w':=w.alloc (.cells H.toArray e)) (by simp_all[execOp]) ?_;let μ' :=λb j=>if b=w.heap.size then H[j]? else μ b j
 have F:=u9 z;have D:μ.le μ':=λb j v B=>by grind
 have R:=z.grow (w':=w.alloc (.cells H.toArray e)) ⟨D,λb j v B=>by
   grind⟩ (λb j v B=>by
   by_cases I:b=w.heap.size
   .subst I;have q :=by simpa[μ'] using B
    exact tu (by simp[q]) (lI G v (aI q))
   .have q :=by simpa[μ',I] using B
    exact z.RH (qD w _) b j v q) (qD w _)
 refine S _ _ _ _ (R.set U ?_);show rep _ _ _;rw[rep];grind[tJ]
def ZZ {o:Oper} {t:TypeId} {l c:Operand} {d e s:Nat} {kl kc:IntKind} {nl D:Int} {z:List AV} {i:TypeInfo} (G:Rel N w0 μ0 L μ loc st a w) (hd:d<N) (O:o.dst=some d) (ho:o.op= .makeSlice t l c)
  (hs:isSlice P t=some (e,s)) (hl:(bz P 0 st l).bind iJ =some (.int kl nl)) (hc:(bz P 0 st c).bind iJ =some (.int kc D)) (hz:zeroCells P e=some z) (U:P.info? e=some i)
  (F:0<s/\z.length=s/\0<=nl/\nl<=D/\i.bytes *D.toNat<=281474976710656/\D<=9223372036854775807)
  (hK:mM N w0 μ0 L ((st.new d (.row e s (replicate nl.toNat z))).set (some d) (.row d)) K):o.uB P a w K Q:=by
 obtain⟨hpos,hzl,h0,hlc,hby,h63⟩:=F;obtain⟨hu,S,q,hsz⟩:=gw hs;rw[q] at U;injection U with U;subst U;obtain⟨i',v,B,hv,I⟩:=qb (μ:=μ) hz;rw[q] at B;injection B with B;subst B;have hzc :=by have:=I.length;simpa[hzl] using this
 have hlv:=fu G hl;have V:=fu G hc;rw[rep] at hlv V;have H :=by have e1:((S.bytes *D.toNat:Nat):Int)<=281474976710656:=af;rw[Int.natCast_mul,Int.toNat_of_nonneg af] at e1;exact e1
 have hr:=run_make w t e _ v hu q hv kl kc _ _ h0 hlc H h63;refine gI (v:= .slice (some ⟨w.heap.size,0,none⟩) nl.toNat D.toNat) (w':=w.alloc (.cells (madeCells v.cells (D.toNat *S.size)) e)) (by simp_all[execOp]) ?_;rw[O];refine hK _ _ _ _ (G.made hd (by simp[jw,bC]) ?_ (Jw rfl));have R:=qq I af nl.toNat;refine⟨_,⟨dm R, .inr ⟨_,D.toNat,_,?_,cZ _,sX w _,?_,?_,?_,?_⟩⟩,R,λg hg=> ?_⟩
 .rw[cv];simp
 .simp;omega
 .simp[maxLen];omega
 .rw[size_madeCells,hsz]
 .grind[uu,Pm,Array.length_toList]
 .rw[cv] at hg;simp[jw,bC] at hg;subst hg;exact⟨.inl G.grown,u9 G _ (aU _)⟩
def eff_nil {o:Oper} {d e s:Nat} (q:Rel N w0 μ0 L μ loc st a w) (D:d<N) (l:o.dst=some d) (G:o.op= .assign (.const (.slice none 0 0)))
  (B:mM N w0 μ0 L ((st.new d (.row e s [])).set (some d) (.row d)) K):o.uB P a w K Q:=by
 refine gI (v:= .slice _ 0 0) (by unfold execOp;rw[G];rfl) ?_;rw[l];refine B _ _ _ _ ((q.new (.inl (eO D q.small)) ?_ (λj O I F g z=>by simp[jw,bC] at z)).set (λi H=>by simp_all) (Jw rfl));refine⟨[],⟨ah, .inl ⟨cv _ _ _,rfl⟩⟩,rfl,λg z=> ?_⟩;simp_all[cv,jw,bC]
def Jz {t e ty:TypeId} {l:TypeInfo} {v:Value} (D:P.underlying t=some (.slice e)) (q:P.info? e=some l) (F:l.zero=some v) {ad:Addr} {n c:Nat} (B:0<n) {w':World} (z:(storeCells ad (Builtin.zeroCells v.cells n).toList).run P w= .ok () w'):
  (Builtin.clear_ #[t] ty #[.slice (some ad) n c]).run P w= .ok (.tuple #[]) w':=by
 obtain⟨k,rfl⟩:∃k,n=k+1:=⟨n-1,af⟩
 simp_all[Builtin.clear_,bJ,zeroValue,typeInfo]
theorem XL {o:Oper} {c:Call} {t e e':TypeId} {s id sz V l q:Nat} {x:Operand} {xs:List (List AV)} {z:List AV} (hR:Rel N w0 μ0 L μ loc st a w) (H:o.dst=none) (ho:o.op= .call c) (hc:c.callee= .builtin .clear) (ha:c.args.toList=[x]) (ht:c.argTypes.toList=[t])
  (hs:isSlice P t=some (e,s)) (hx:bz P t st x=some (.sub id sz l q)) (R:st.ob id=some (.row e' V xs)) (hz:zeroCells P e=some z) (O:s=sz/\sz=V/\z.length=sz/\q<=xs.length/\e=e'/\0<sz)
  (hK:mM N w0 μ0 L { st with ob:=put st.ob id (some (.row e' V (xs.take l++replicate (q-l) z++xs.drop q))) } K):o.uB P a w K Q:=by
 obtain⟨rfl,rfl,hzl,hhi,rfl,hpos⟩:=O;obtain⟨callee,⟨args⟩,⟨argTypes⟩⟩:=c;simp only at hc ha ht;subst hc;subst ha;subst ht;obtain⟨hu,inf,I,hsz⟩:=gw hs;obtain⟨A,n,cp,A',c',KM,hlo,hhn,hcc,hxv,_,hg⟩:=aY hR hx;obtain⟨vs,hown,S,hm⟩:=hR.obs id _ R;by_cases hlt:l<q
 .obtain⟨g,rfl,rfl⟩:=hg hlt;obtain⟨D,B,hloc',F,hnc,hcm,hcs,htake⟩:∃D B,loc id= .slice (some ⟨g,0,none⟩) xs.length D/\w.heap[g]? =some (.cells B e (0,0))/\xs.length<=D/\D<=maxLen/\B.size=D *s/\B.toList.take (xs.length *s)=vs:=by
   rcases hown.2 with⟨_,e2⟩|⟨g',D,B,e1,_,h2,h3,h4,h5,h6⟩
   .omega
   simp_all
  obtain⟨i',v,G,hv,hcz⟩:=qb (μ:=μ) hz;rw[I] at G;injection G with G;subst G;have hzc:v.cells.size=s:=by have:=hcz.length;simpa[hzl] using this
  have hzs:(Builtin.zeroCells v.cells (q-l)).toList=(replicate (q-l) v.cells.toList).flatten:=by rw[<-uu v.cells s hzc hpos (q-l)];simp[Builtin.zeroCells,madeCells,hzc]
  have U:=qq (sz:=s) hcz af (q-l);have Lp:((replicate (q-l) v.cells.toList).flatten).length=(q-l) *s:=by have:=dm U;simpa using this
  have hvl:=dm S;have vp:xs.length *s<=B.size:=by rw[hcs];exact jB _ hnc
  have hmul:l *s+(q-l) *s=q *s:=by rw[<-kj];congr 1;omega
  have hhis:q *s<=xs.length *s:=jB _ hhi;have hsc:=vz P g (l *s) e (replicate (q-l) v.cells.toList).flatten 0 B w F af (lI U);simp only[qx,Lp] at hsc;have aaz:=nE (nE (sP S l) U) (BK S q);have hxl':(xs.take l++replicate (q-l) z++xs.drop q).length=xs.length:=by simp;omega
  have hrun:=Jz (P:=P) (ty:=o.type) (c:=c') (n:=q-l) hu I hv af (by rw[hzs];omega);refine gI (v:= .tuple #[]) (w':=w.setRow g (B.toList.take (l *s)++(replicate (q-l) v.cells.toList).flatten++B.toList.drop (l *s+(q-l) *s)).toArray) (by simp_all[execOp,resolve,invoke,builtin,fW,lg,gO,List.map_toArray,aS,dR]) ?_;rw[H];refine hK _ _ _ _ (hR.write R (g:=g) (by rw[KM];exact ia.2 rfl) (λk hk=>vA w g k _ hk) rfl rfl rfl ah ?_);refine⟨_,⟨?_, .inr ⟨g,D,_,?_,cZ _,zI w g B _ e _ F,?_,hcm,?_,?_⟩⟩,aaz,λg' hg'=>hm g' hg'⟩
  .grind
  .simp_all
  .omega
  .grind
  grind[Nat.mul_le_mul_right,Nat.min_eq_left,List.drop_take,replicate,List.length_append,List.length_take,List.take,List.drop,List.take_append,List.take_of_length_le]
 .have h0:q-l=0:=af;have e0:xs.take l++replicate (q-l) z++xs.drop q=xs:=by
   rw[show l=q from by omega];simp
  rw[e0] at hK
  refine gI (v:= .tuple #[]) (w':=w) (by
   unfold execOp;rw[ho];simp[resolve,invoke,builtin,hxv,h0,Builtin.clear_,bJ hu]
   cases A'<;>simp) ?_
  rw[H];refine hK _ _ μ loc ?_
  have:put st.ob id (some (.row e s xs))=st.ob:=by
   funext i;by_cases e:id=i
   .subst e;rw[cu,R]
   .rw[bu _ _ e]
  rw[this];exact hR
def Ii {o:Oper} {t:TypeId} {x y:Operand} {sa sv:SV} (hR:Rel N w0 μ0 L μ loc st a w) (zj:o.dst=none) (ho:o.op= .store t x y)
  (S:gH μ loc sa (a.eval x)) (Pu:gH μ loc sv (a.eval y)) (h:storeAt P t st sa sv=some st') (hK:mM N w0 μ0 L st' K):o.uB P a w K Q:=by
 have fin:∀(ad:Addr) (w':World),a.eval x= .pointer (some ad)->(storeVar t ad (a.eval y)).run P w= .ok () w'->Rel N w0 μ0 L μ loc st' a w'->o.uB P a w K Q:=λad w' e hr hR'=>by refine EA (w':=w') ?_ (by rw[zj];exact hK _ _ _ _ hR');simp_all[execOp,Instr.storeAt,Instr.sureAddr,fW,lg,gO]
 unfold storeAt at h;split at h
 .rename_i id l;obtain⟨b,hl,S⟩:=S;split at h
  .rename_i bt cells n R hsz;obtain⟨b',I,hl',hnF,B,xD,hss,h1⟩:=hR.obs id _ R;rw[hl] at hl';simp only[zA,aN,zB,fG] at hl';subst hl';have hlen:=pz hss;have U:∀(D:List Value) (sus:List SV),(a.eval y).cells.toList=D->D.length=n->l+n<=I.length->(∀u∈D,u.oneCell'=true)->iF μ loc sus D->
     st'={ st with ob:=put st.ob id (some (.box bt (cells.take l++sus++cells.drop (l+n)))) }->o.uB P a w K Q:=by
    intro D sus By Lp hle G hsus hst;have hsc:=vz P b l bt D 0 I.toArray w B aF G;simp only[qx] at hsc
    refine fin ⟨b,l,none⟩ _ S (by
     have:(a.eval y).cells.size=n:=by rw[<-Lp,<-By];simp
     simp only[storeVar,fW,kz hsz,gO,this,ne_eq,qz,eC,lg,By]
     omega) ?_
    rw[hst];refine hR.write R (g:=b) (by rw[hl];exact qd.2 rfl) (λk hk=>vA w b k _ hk) rfl rfl rfl ah ?_;refine⟨b,I.take l++D++I.drop (l+n),hl,hnF,?_,xD,?_,?_⟩
    .grind[setRow_heap]
    .grind[pq,Cs,Cr]
    .grind
   split at h
   .rename_i cs;split at h
    .rename_i q;injection h with h;obtain⟨D,e,V,G⟩:=Pu;have hs:=r9 V;exact U D (cs.map H8) (by rw[e];rfl) (by grind[pz,List.length_map]) af G hs h.symm
    grind
   .rename_i cs;split at h
    .rename_i q;injection h with h;have QJ:=Pu;simp only[gH,rep] at QJ;obtain⟨D,e,V,G⟩:=QJ;exact U D (cs.map .pv) (by rw[e];rfl) (by grind[nK]) af G (rH V) h.symm
    grind
   .split at h
    .rename_i q;injection h with h;obtain⟨ho1,hc1⟩:=UK hR q.2.2 Pu;refine U [a.eval y] [sv] (by rw[hc1]) (by simp_all) af (by simp_all) ⟨_,[],rfl,Pu,rfl⟩ ?_;simp_all[FC,az]
    grind
  grind
 .rename_i id H i l;obtain⟨g,n',cp,hl,S⟩:=S;split at h
  .rename_i e sz' xs n v R hsz;split at h
   .rename_i c hg;split at h
    .rename_i q;obtain⟨rfl,hvl,hle,hnt⟩:=q;injection h with h;rw[iS (hR.obs id _ R)] at hl;obtain⟨I,hown,hrc,hm⟩:=hR.obs id _ R;have hil:i<xs.length:=(bF.1 hg).1;obtain⟨O,F,KM,B,hnc,hcm,hcs,htake⟩:∃O F,loc id= .slice (some ⟨g,0,none⟩) xs.length O/\w.heap[g]? =some (.cells F e (0,0))/\xs.length<=O/\O<=maxLen/\F.size=O *H/\F.toList.take (xs.length *H)=I:=by
      rcases hown.2 with⟨_,e2⟩|⟨g',O,F,e1,_,h2,h3,h4,h5,h6⟩
      .omega
      simp_all
     have hyc:j8 μ v.cells (a.eval y).cells.toList:=LR (show rep μ v (a.eval y) from Pu) (λz e=>by rw[e] at hnt;cases hnt);have Lp:(a.eval y).cells.toList.length=n:=by rw[hyc.length];exact hvl
     have key:∀(xs:List (List AV)) (I:List Value) (i:Nat) (c:List AV),c4 μ H xs I->xs[i]? =some c->l+n<=c.length->
       c4 μ H (xs.set i (c.take l++v.cells++c.drop (l+n))) (I.take (i *H+l)++(a.eval y).cells.toList++I.drop (i *H+l+n))/\i *H+l+n<=I.length:=by
      intro xs;induction xs with
      |nil=>simp
      |cons x xs ih=>intro I i c hrc hx hle;obtain⟨D,ws,rfl,k1,k2,k3⟩:=hrc;cases i with
       |zero=>
        simp at hx;subst hx;have hxl:=k1.length;refine⟨?_,aF⟩;refine⟨D.take l++(a.eval y).cells.toList++D.drop (l+n),ws,?_,((k1.take l).append hyc).append (k1.drop (l+n)),?_,k3⟩
        .grind
        grind
       |succ i=>
        simp at hx;obtain⟨r1,r2⟩:=ih ws i c k3 hx hle;refine⟨?_,by grind⟩;refine⟨D,ws.take (i *H+l)++(a.eval y).cells.toList++ws.drop (i *H+l+n),?_,k1,k2,r1⟩
        rw[show(i+1) *H+l=D.length+(i *H+l) from by grind,List.take_length_add_append,
         show D.length+(i *H+l)+n=D.length+(i *H+l+n) from by omega,Fw]
        simp
     obtain⟨aaz,hle'⟩:=key xs I i c hrc hg hle;have hvl':=dm hrc;have vp:xs.length *H<=F.size:=by rw[hcs];exact jB _ hnc
     have hsc:=vz P g (i *H+l) e _ 0 _ w B af hyc.2;simp only[Lp] at hsc
     refine fin _ _ S (by
      have :=by simpa using Lp
      simp[storeVar,fW,kz hsz,gO,this,ne_eq,qz,eC]
      omega) ?_
     rw[<-h];refine hR.write R (by rw[hl];exact ia.2 rfl) (λk hk=>vA w g k _ hk) rfl rfl rfl ah ?_;refine⟨_,⟨?_, .inr ⟨g,_,_,?_,cZ _,zI w g _ _ e _ B,?_,hcm,?_,?_⟩⟩,aaz,λg' hg'=>hm _ hg'⟩
     .grind
     .simp_all
     .simp_all
     .grind
     .rw[show I.take _=F.toList.take (i *H+l) from by grind,
       show I.drop _=(F.toList.drop _).take _ from by rw[<-htake,Fx]]
      rw[List.take_append,gd (by grind)];congr 2;grind
    grind
   grind
  grind
 grind
def XQ {o:Oper} {t:TypeId} {x y:Operand} {z B:SV} (q:Rel N w0 μ0 L μ loc st a w) (l:o.dst=none) (F:o.op= .store t x y)
  (G:bz P 0 st x=some z) (H:bz P t st y=some B) (h:storeAt P t st z B=some st') (D:mM N w0 μ0 L st' K):o.uB P a w K Q:=
 Ii q l F (aY q G) (aY q H) h D
def P8 {o:Oper} {t:TypeId} {x y:Operand} {id H j I n:Nat} (B:Rel N w0 μ0 L μ loc st a w) (F:o.dst=none) (ho:o.op= .store t x y) (hx:bz P 0 st x=some (.ptr id H)) (hy:bz P t st y=some (.sub j I 0 n))
  (h:VE P st t id H j I n=some st') (hK:mM N w0 μ0 L st' K):o.uB P a w K Q:=by
 unfold VE at h;split at h
 .rename_i e sz' xs G;cases S:(Nat.beq I sz'&&iI j&& !(Nat.beq id j)) with
  |false=>simp_all
  |true=>
  rw[S] at h;simp at h;simp only[aJ] at S;obtain⟨⟨b1,b2⟩,b3⟩:=S;have c1:=beq_iff.1 b1;subst c1;have hne:id≠j:=λe=>by simp_all
  have hxa:=aY B hx;obtain⟨A,m,c,A',c',hl,_,hnm,_,hu,h0,_⟩:=aY B hy;obtain⟨rfl,rfl⟩:=h0 rfl;have U:j<10000\/20000<=j:=by simp[iI,fq] at b2;rcases b2 with hm|hm<;>simp_all
  obtain⟨us,l,hrc,hm⟩:=B.obs j _ G;have hml:m=xs.length:=by rcases l.2 with⟨e1,e2⟩|⟨q,O,R,e1,_⟩<;>simp_all
  have D:∀q,jw (.slice A' n c') q↔jw (loc j) q:=λq=>by rw[hl,ia,ia];cases A'<;>rfl
  have h2:=B.new (o:= .row e I (xs.take n)) U ?_ (λk ok hk V q hq=>B.apart j k _ _ G hk (cO V) q ((D q).1 hq))
  .refine Ii h2 F ho ?_ ?_ h hK
   .obtain⟨b,k1,k2⟩:=hxa;exact⟨b,by simp_all[cG],k2⟩
   .show a.eval y=fH _;rw[cv,hu];rfl
  .have z:=sP hrc n;refine⟨_,⟨by rw[dm z],?_⟩,z,λq hq=> ?_⟩
   .rw[cv];rcases l.2 with⟨e1,e2⟩|⟨q,O,R,e1,k1,k2,k3,k4,k5,k6⟩
    .simp_all
    grind[Nat.mul_le_mul_right]
   simp_all[cv]
 grind
def zf (t ty e:TypeId) (i:TypeInfo) (B:P.underlying t=some (.slice e)) (z:P.info? e=some i) (v:Value) (n:Nat) (xs:List Value) (size:Nat) (l:w.ownsRow 0 e size v n xs) (c:Nat):
  (Builtin.append_ #[t,t] ty #[v, .slice none 0 c]).run P w= .ok v w:=by
 rcases l.2 with⟨rfl,rfl⟩|⟨g,D,F,rfl,_,_,q,_⟩
 .simp[Builtin.append_,bJ B,sizeOf,typeInfo,z,Builtin.lenOf,Builtin.firstCells]
 .simp[Builtin.append_,bJ B,sizeOf,typeInfo,z,Builtin.lenOf,Builtin.firstCells,q,storeCells]
def Tu {o:Oper} {x y:Operand} {t e:TypeId} {d F id:Nat} {sy:SV} {xs U:List (List AV)} {i:TypeInfo} (B:Rel N w0 μ0 L μ loc st a w) (hd:d<N) (zj:o.dst=some d)
  (ho:o.op= .call { callee:= .builtin .append,args:= #[x,y],argTypes:= #[t,t] }) (hs:isSlice P t=some (e,F)) (hx:bz P t st x=some (.row id)) (hy:bz P t st y=some sy)
  (I:st.ob id=some (.row e F xs)) (hel:elems st sy=some (F,U)) (hi:P.info? e=some i) (hpos:0<F) (hby:(xs.length+U.length) *i.bytes<=140737488355328) (hlen:xs.length+U.length<=4611686018427387904)
  (hz:i.zero.map (λz=>z.cells.size)=some F) (hid:id<10000\/20000<=id) (hK:mM N w0 μ0 L ((st.new id (.row e F (xs++U))).set (some d) (.row id)) K):o.uB P a w K Q:=by
 obtain⟨hu,inf,G,hsz⟩:=gw hs;rw[G] at hi;injection hi with hi;subst hi;obtain⟨z,hz0,hzs⟩:∃z,inf.zero=some z/\z.cells.size=F:=by simp_all
 have hxv:a.eval x=loc id:=(aY B hx:a.eval x=fH (loc id)).trans (iS (B.obs id _ I));have Pu:=aY B hy;obtain⟨vs,O,hrc,hm⟩:=B.obs id _ I;obtain⟨A,c,QJ,us,By,hsrc⟩:=s7 B hel Pu;have Lp:=dm By;obtain⟨R,w',hrun,DI,l,D⟩:∃R w',(Builtin.append_ #[t,t] o.type #[loc id, .slice A U.length c]).run P w= .ok R w'/\w'.ownsRow 0 e F R (xs.length+U.length) (vs++us)/\w.grownBy w' (loc id).ownBlock/\
   (R.ownBlock=(loc id).ownBlock\/R.ownBlock=some w.heap.size):=by
  cases A with
  |none=>
   have h0:U.length=0:=by
    rcases hsrc with h0|⟨ad,h,_⟩
    .exact h0
    .cases h
   have hu0:us=[]:=kY (by simp_all);subst hu0;rw[h0];exact⟨loc id,w,zf t o.type e inf hu G (loc id) _ vs F O c,by simp_all,⟨rfl,rfl,rfl,aU _,λ_ _ _=>rfl⟩, .inl rfl⟩
  |some ad=>
   have V:∀j u,us[j]? =some u->w.cell? (ad.add j)=some u:=by rcases hsrc with h0|⟨ad',h,hc⟩<;>simp_all
   obtain⟨R,w',h1,h2,h3,_,h5⟩:=run_append_own_at (P:=P) w 0 t o.type e inf z F inf.bytes hu G hz0 hsz rfl hzs hpos (loc id) xs.length vs O ad U.length c us Lp V (lI By) (by simp only[maxLen];omega) hby (cZ _);grind
 have hbo:∀v:Value,(∃A n c,v= .slice A n c)->v.ownBlock=bC v:=by rintro v ⟨A,n,c,rfl⟩;cases A<;>rfl
 have KM:∃A n c,loc id= .slice A n c:=by rcases O.2 with⟨e1,_⟩|⟨g,cap,cur,e1,_⟩<;>simp_all
 have hv':∃A n c,R= .slice A n c:=by rcases DI.2 with⟨e1,_⟩|⟨g,cap,cur,e1,_⟩<;>simp_all
 rw[hbo _ KM] at l D;rw[hbo _ hv'] at D;have hok:=B.obs id _ I;refine gI (v:=R) (w':=w') (by simp_all[execOp,resolve,invoke,builtin]) ?_;rw[zj]
 have h1:=(B.drop id).world (w':=w') (Mu.le.refl _) (λ_ _ _ h=> .inl h) (λb j v h=>by
   have hc:=B.uy b j v h;have hlt:=lQ hc;have H:some b≠bC (loc id):=λe=>by have:=(hok.block b (.inl e.symm)).2.2 j;simp_all
   rw[fP (l.block b hlt H)];omega) (λk ok hk b q=>by
   by_cases e':id=k
   .simp_all[cu]
   .simp only[bu _ _ e'] at hk;obtain⟨_,hlt,xD⟩:=(B.obs k ok hk).block b q;have H:some b≠bC (loc id):=λe=>B.apart id k _ ok I hk e' b (.inl e.symm) q
    exact⟨l.block b hlt H,xD⟩) (λb q hl=>by
   refine l.block b (eO q B.grown) (λe=> ?_);rcases(hok.block b (.inl e.symm)).1 with h|⟨v,hv,h⟩
   .omega
   .exact hl ⟨id,v,hv,h⟩) l.os l.tape l.output l.size (λ_=>Fa hrun)
 have h2:=h1.new (val:=R) (o:= .row e _ _) hid (by
   refine⟨_,?_,nE hrc By,λg S=> ?_⟩
   .simp_all[cv]
   .rw[cv] at S;replace S:bC R=some g:=by obtain⟨A',n',c',rfl⟩:=hv';exact ia.1 S
    rcases D with q|q
    .rw[S] at q;have:=hok.block g (.inl q.symm);simp_all
    .rw[S] at q;injection q with q;subst q
     exact⟨.inl B.grown,u9 B _ (aU _)⟩) (λj oj hj H g S=>by
   have hj':st.ob j=some oj:=by
    by_cases e':id=j
    .omega
    .simp_all[bu]
   replace S:bC R=some g:=by obtain⟨A',n',c',rfl⟩:=hv';exact ia.1 S
   rcases D with q|q
   .rw[S] at q;exact B.apart _ j _ _ I hj' (λe=>H e.symm) g (.inl q.symm)
   .rw[S] at q;injection q with q;intro hbj;have:=((B.obs j _ hj').block _ hbj).2.1
    omega)
 have heq:St.new { st with ob:=put st.ob id none } id (.row e F (xs++U))=St.new st id (.row e F (xs++U)):=by
  simp[St.new,St.dG];congr 1;funext k;by_cases e':id=k
  .subst e';simp[cu]
  .simp[bu _ _ e']
 rw[heq] at h2;exact hK _ _ _ _ (h2.set (λi hi=>by simp_all) (Jw (by obtain⟨A',n',c',rfl⟩:=hv';rfl)))
def GJ (w:World) (t ty e:TypeId) (i:TypeInfo) (z:Value) (size bytes:Nat) (ht:P.underlying t=some (.slice e)) (hi:P.info? e=some i) (hz:i.zero=some z)
  (G:i.size=size) (U:i.bytes=bytes) (hzs:z.cells.size=size) (A:Option Addr) (n I:Nat) (xs:List Value) (q:w.ownsRow 0 e size (.slice A n I) n xs)
  (a:Addr) (m c:Nat) (l:List Value) (O:l.length=m *size) (B:∀j u,l[j]? =some u->w.cell? (a.add j)=some u) (h63:n+m<=maxLen) (D:(n+m) *bytes<=140737488355328) (hm:0<m):
  ∃S w',(Builtin.append_ #[t,t] ty #[.slice A n n, .slice (some a) m c]).run P w= .ok S w'/\w'.ownsRow 0 e size S (n+m) (xs++l)/\w.grownBy w' (Value.ownBlock (.slice A n I))/\
   (S.ownBlock=Value.ownBlock (.slice A n I)\/S.ownBlock=some w.heap.size):=by
 subst G U;have H:(xs++l).length=(n+m) *i.size:=by rw[cS,q.1,O,kj]
 have hge:=grownCap_ge w (n+m) n e;have V :=grownCap_le_maxLen w _ n e h63;have R:n+m<=9223372036854775807:=by simp[maxLen] at h63;omega
 have key:∀row,(w.drew.alloc (.cells (xs.toArray++l.toArray++Builtin.zeroCells z.cells (grownCap w (n+m) n e-(n+m))) e)).ownsRow 0 e _ _ _ _/\
   w.grownBy (w.drew.alloc (.cells (xs.toArray++l.toArray++Builtin.zeroCells z.cells (grownCap w (n+m) n e-(n+m))) e)) row:=λrow=>by
  refine⟨⟨H, .inr ⟨_,_,_,rfl,cZ _,sX _ _,hge,V,?_,?_⟩⟩,⟨rfl,rfl,rfl,by simp,λk hk _=>heap_alloc_old _ _ k hk⟩⟩
  .simp[Array.size_append,mG,size_zeroCells,hzs,q.1,O,<-kj];simp_all
  grind
 rcases q.2 with⟨e1,e2⟩|⟨g,cap,cur,e1,_⟩
 .have hx:xs=[]:=kY (by simp_all);injection e1 with e1 _ _;subst hx e2 e1;have hr:=run_append_nil w t ty e i z ht hi hz a m c _ O B af af (by grind);have F:=key (Value.ownBlock (.slice none 0 I));simp at F⊢;exact⟨_,_,hr,F.1,F.2, .inr rfl⟩
 .injection e1 with e1 _ _;subst e1;have hr:=run_append_grow w t ty e i z ht hi hz _ n n _ q.1 (q.cells rfl) a m c _ O B af af (growslice_fits af D);exact⟨_,_,hr,(key none).1,(key _).2, .inr rfl⟩
def Qb {o:Oper} {x y:Operand} {t e:TypeId} {d I id:Nat} {sy:SV} {xs H:List (List AV)} {i:TypeInfo} (D:Rel N w0 μ0 L μ loc st a w) (hd:d<N) (zj:o.dst=some d)
  (ho:o.op= .call { callee:= .builtin .append,args:= #[x,y],argTypes:= #[t,t] }) (hs:isSlice P t=some (e,I)) (hx:bz P t st x=some (.aq id .full)) (hy:bz P t st y=some sy)
  (U:st.ob id=some (.row e I xs)) (hel:elems st sy=some (I,H)) (hi:P.info? e=some i) (hpos:0<I) (hby:(xs.length+H.length) *i.bytes<=140737488355328) (hlen:xs.length+H.length<=4611686018427387904)
  (hz:i.zero.map (λz=>z.cells.size)=some I) (hid:id<10000\/20000<=id) (B:H.isEmpty=false) (hK:mM N w0 μ0 L ((st.new id (.row e I (xs++H))).set (some d) (.row id)) K):o.uB P a w K Q:=by
 obtain⟨hu,inf,hinf,hsz⟩:=gw hs;rw[hinf] at hi;injection hi with hi;subst hi;obtain⟨z,hz0,hzs⟩:∃z,inf.zero=some z/\z.cells.size=I:=by simp_all
 have Pu:=aY D hy;obtain⟨vs,G,hrc,hm⟩:=D.obs id _ U;have hpos2:0<H.length:=by cases H with
  |nil=>simp at B
  |cons y H=>simp
 obtain⟨A0,hxv⟩:∃A0,a.eval x= .slice A0 xs.length xs.length/\∃c,loc id= .slice A0 xs.length c:=by
  obtain⟨A0,n,c,e1,e2⟩:=aY D hx;have hn:n=xs.length:=by rcases G.2 with⟨e3,e4⟩|⟨g,cap,cur,e3,_⟩<;>simp_all
  simp_all
 obtain⟨hxv,c0,hl0⟩:=hxv;obtain⟨A,c,QJ,us,By,hsrc⟩:=s7 D hel Pu;have Lp:=dm By;obtain⟨O,w',hrun,DI,l,F⟩:∃O w',(Builtin.append_ #[t,t] o.type #[.slice A0 xs.length xs.length, .slice A H.length c]).run P w= .ok O w'/\w'.ownsRow 0 e I O (xs.length+H.length) (vs++us)/\w.grownBy w' (loc id).ownBlock/\
   (O.ownBlock=(loc id).ownBlock\/O.ownBlock=some w.heap.size):=by
  cases A with
  |none=>simp_all
  |some ad=>
   have S:∀j u,us[j]? =some u->w.cell? (ad.add j)=some u:=by
    rcases hsrc with h0|⟨ad',h,hc⟩
    .omega
    .simp_all
   rw[hl0] at G⊢;obtain⟨O,w',h1,h2,h3,h5⟩:=GJ (P:=P) w t o.type e inf z I inf.bytes hu hinf hz0 hsz rfl hzs A0 xs.length c0 vs G ad H.length c us Lp S (by simp only[maxLen];omega) hby hpos2;grind
 have hbo:∀v:Value,(∃A n c,v= .slice A n c)->v.ownBlock=bC v:=by rintro v ⟨A,n,c,rfl⟩;cases A<;>rfl
 have KM:∃A n c,loc id= .slice A n c:=by rcases G.2 with⟨e1,_⟩|⟨g,cap,cur,e1,_⟩<;>simp_all
 have V:∃A n c,O= .slice A n c:=by
  rcases DI.2 with⟨e1,_⟩|⟨g,cap,cur,e1,_⟩
  .omega
  .simp_all
 rw[hbo _ KM] at l F;rw[hbo _ V] at F;have hok:=D.obs id _ U;refine gI (v:=O) (w':=w') (by simp_all[execOp,resolve,invoke,builtin]) ?_;rw[zj]
 have h1:=(D.drop id).world (w':=w') (Mu.le.refl _) (λ_ _ _ h=> .inl h) (λb j v h=>by
   have hc:=D.uy b j v h;have hlt:=lQ hc;have B:some b≠bC (loc id):=λe=>by have:=(hok.block b (.inl e.symm)).2.2 j;simp_all
   rw[fP (l.block b hlt B)];omega) (λk ok hk b q=>by
   by_cases e':id=k
   .simp_all[cu]
   .simp only[bu _ _ e'] at hk;obtain⟨_,hlt,xD⟩:=(D.obs k ok hk).block b q;have B:some b≠bC (loc id):=λe=>D.apart id k _ ok U hk e' b (.inl e.symm) q
    exact⟨l.block b hlt B,xD⟩) (λb q hl=>by
   refine l.block b (eO q D.grown) (λe=> ?_);rcases(hok.block b (.inl e.symm)).1 with h|⟨v,hv,h⟩
   .omega
   .exact hl ⟨id,v,hv,h⟩) l.os l.tape l.output l.size (λ_=>Fa hrun)
 have h2:=h1.new (val:=O) (o:= .row e _ _) hid (by
   refine⟨_,?_,nE hrc By,λg R=> ?_⟩
   .simp_all[cv]
   .rw[cv] at R;replace R:bC O=some g:=by obtain⟨A',n',c',rfl⟩:=V;exact ia.1 R
    rcases F with q|q
    .rw[R] at q;have:=hok.block g (.inl q.symm);simp_all
    .rw[R] at q;injection q with q;subst q
     exact⟨.inl D.grown,u9 D _ (aU _)⟩) (λj oj hj B g R=>by
   have hj':st.ob j=some oj:=by
    by_cases e':id=j
    .omega
    .simp_all[bu]
   replace R:bC O=some g:=by obtain⟨A',n',c',rfl⟩:=V;exact ia.1 R
   rcases F with q|q
   .rw[R] at q;exact D.apart _ j _ _ U hj' (λe=>B e.symm) g (.inl q.symm)
   .rw[R] at q;injection q with q;intro hbj;have:=((D.obs j _ hj').block _ hbj).2.1
    omega)
 have heq:St.new { st with ob:=put st.ob id none } id (.row e I (xs++H))=St.new st id (.row e I (xs++H)):=by
  simp[St.new,St.dG];congr 1;funext k;by_cases e':id=k
  .subst e';simp[cu]
  .simp[bu _ _ e']
 rw[heq] at h2;exact hK _ _ _ _ (h2.set (λi hi=>by simp_all) (Jw (by obtain⟨A',n',c',rfl⟩:=V;rfl)))
def Qc {o:Oper} {x y:Operand} {t e e2:TypeId} {d F id k s2:Nat} {sy:SV} {xs H:List (List AV)} {zs:List (Option (List (List AV)))} {i:TypeInfo} (G:Rel N w0 μ0 L μ loc st a w) (hd:d<N) (zj:o.dst=some d)
  (ho:o.op= .call { callee:= .builtin .append,args:= #[x,y],argTypes:= #[t,t] }) (hs:isSlice P t=some (e,F)) (hx:bz P t st x=some (.row id)) (hy:bz P t st y=some sy)
  (V:st.ob id=some (.rn e F k e2 s2 xs zs)) (hel:elems st sy=some (F,H)) (S:P.info? e=some i) (hpos:0<F) (hby:(xs.length+H.length) *i.bytes<=140737488355328) (hlen:xs.length+H.length<=4611686018427387904)
  (hz:i.zero.map (λz=>z.cells.size)=some F) (hid:id<10000\/20000<=id) (hall:H.all (qe k)=true) (hK:mM N w0 μ0 L ((st.new id (.rn e F k e2 s2 (xs++H.map λc=>c.set k .hole) (zs++H.map λ_=>some []))).set (some d) (.row id)) K):o.uB P a w K Q:=by
 obtain⟨D,inf,U,hsz⟩:=gw hs;rw[U] at S;injection S with S;subst S;obtain⟨z,hz0,hzs⟩:∃z,inf.zero=some z/\z.cells.size=F:=by cases hzz:inf.zero with
  |none=>simp[hzz] at hz
  |some z=>simp[hzz] at hz;exact⟨z,rfl,hz⟩
 obtain⟨m,vu,vs,hl,hm,I,hrc,hk,h2,h3,h4,h5,h6,h7⟩:=G.obs id _ V;have hxv:a.eval x=m:=(aY G hx:a.eval x=fH (loc id)).trans (by rw[hl];rfl);have Pu:=aY G hy;obtain⟨A,c,QJ,us,By,hsrc⟩:=s7 G hel Pu;have Lp:=dm By;obtain⟨hus',MS⟩:=vm By hall hk.1;obtain⟨v',w',hrun,DI,l,hblk⟩:∃v' w',(Builtin.append_ #[t,t] o.type #[m, .slice A H.length c]).run P w= .ok v' w'/\w'.ownsRow 0 e F v' (xs.length+H.length) (vs++us)/\w.grownBy w' m.ownBlock/\
   (v'.ownBlock=m.ownBlock\/v'.ownBlock=some w.heap.size):=by
  cases A with
  |none=>
   have h0:H.length=0:=by
    rcases hsrc with h0|⟨ad,h,_⟩
    .exact h0
    .cases h
   have hu0:us=[]:=kY (by rw[Lp,h0];simp);subst hu0;rw[h0];exact⟨m,w,zf t o.type e inf D U m _ vs F I c,by simpa using I,⟨rfl,rfl,rfl,aU _,λ_ _ _=>rfl⟩, .inl rfl⟩
  |some ad=>
   have hcells:∀j u,us[j]? =some u->w.cell? (ad.add j)=some u:=by
    rcases hsrc with h0|⟨ad',h,R⟩
    .have hu0:us=[]:=kY (by rw[Lp,h0];simp);subst hu0;intro j u D;simp at D
    .injection h with h;subst h;exact R
   obtain⟨v',w',h1,h2,h3,_,h5⟩:=run_append_own_at (P:=P) w 0 t o.type e inf z F inf.bytes D U hz0 hsz rfl hzs hpos m xs.length vs I ad H.length c us Lp hcells (lI By) (by simp only[maxLen];omega) hby (cZ _);exact⟨v',w',h1,h2,h3,h5⟩
 have hbo:∀v:Value,(∃A n c,v= .slice A n c)->v.ownBlock=bC v:=by rintro v ⟨A,n,c,rfl⟩;cases A<;>rfl
 have FR:∀{w:World} {v:Value} {n:Nat} {cs:List Value} {e s:Nat},w.ownsRow 0 e s v n cs->∃A n c,v= .slice A n c:=λho=>by rcases ho.2 with⟨e1,_⟩|⟨g,cap,cur,e1,_⟩<;>exact⟨_,_,_,e1⟩
 have IC:=FR I;have hv':=FR DI;rw[hbo _ IC] at l hblk;rw[hbo _ hv'] at hblk;have hok:=G.obs id _ V;have hinm:∀g,bC m=some g->jw (loc id) g:=λg B=>by rw[hl];exact jP.2 (.inl B)
 have hinu:∀u∈vu,∀g,bC u=some g->jw (loc id) g:=λu D g B=>by rw[hl];exact jP.2 (.inr ⟨u,D,B⟩)
 refine gI (v:=v') (w':=w') (by unfold execOp;rw[ho];simp[resolve,invoke,builtin,hxv,QJ,hrun]) ?_;rw[zj]
 have h1:=(G.drop id).world (w':=w') (Mu.le.refl _) (λ_ _ _ h=> .inl h) (λb j v h=>by
   have R:=G.uy b j v h;have hlt:=lQ R;have O:some b≠bC m:=λe=>by have:=(hm b e.symm).2 j;rw[this] at h;cases h
   rw[fP (l.block b hlt O)];omega) (λk ok hk b hb=>by
   by_cases e':id=k
   .subst e';simp[cu] at hk
   .simp only[bu _ _ e'] at hk;obtain⟨_,hlt,xD⟩:=(G.obs k ok hk).block b hb;have O:some b≠bC m:=λe=>G.apart id k _ ok V hk e' b (hinm b e.symm) hb
    exact⟨l.block b hlt O,xD⟩) (λb hb hl'=>by
   refine l.block b (eO hb G.grown) (λe=> ?_);rcases(hm b e.symm).1 with h|⟨v,hv,h⟩
   .omega
   .exact hl' ⟨id,v,hv,h⟩) l.os l.tape l.output l.size (λ_=>Fa hrun)
 have hvl:=dm hrc;have mem:∀u∈vu++H.map (λ_=>(.slice none 0 0:Value)),u∈vu\/u= .slice none 0 0:=λu D=>by
  rcases bw.1 D with D|D
  .exact .inl D
  .obtain⟨c,_,rfl⟩:=aD.1 D;exact .inr rfl
 have hvg:∀g,bC v'=some g->(bC m=some g)\/g=w.heap.size:=λg B=>by grind
 have h2':=h1.new (id:=id) (val:= .tuple (v'::(vu++H.map λ_=>(.slice none 0 0:Value))).toArray) (o:= .rn e F k e2 s2 (xs++H.map λc=>c.set k .hole) (zs++H.map λ_=>some [])) hid (by
   refine⟨v',_,vs++us,cv _ _ _,λg B=> ?_,by rw[cS,aV];exact DI,nE hrc hus',⟨hk.1,λc R=> ?_⟩,by simp[h2],by simp[h3],λi zs' S=> ?_,λi S=> ?_,λu D g B hgv=> ?_,λi j u v D hv hij g B hg'=> ?_⟩
   .rcases hvg g B with hb|rfl
    .exact⟨(hm g hb).1,(hm g hb).2⟩
    .exact⟨.inl G.grown,u9 G _ (aU _)⟩
   .rcases bw.1 R with R|R
    .exact hk.2 c R
    .obtain⟨c',hc',rfl⟩:=aD.1 R;have:=yF (cz.1 hall c' hc');rw[lq (bF.1 this).1]
   .by_cases hil:i<zs.length
    .rw[dD hil] at S;obtain⟨u,cells,k1,k2,k3,k4,k5⟩:=h4 i zs' S;refine⟨u,cells,by rw[dD af];exact k1,by rw[dD (bF.1 k2).1];exact k2,lH k3 (λg B=> ?_),k4,k5⟩;exact l.block g (sK k3 B) (λe=>h6 u (aI k1) g B e.symm)
    .rw[ga af] at S;simp only[dF,bZ] at S;obtain⟨c,R,e1⟩:=S;simp only[aN] at e1;subst e1;have vp:=(bF.1 R).1;refine⟨.slice none 0 0,[],by rw[ga af];simp[h2,R],?_,⟨ah, .inl ⟨rfl,rfl⟩⟩,rfl,λg B=>by simp[bC] at B⟩;have e3:i *F+k-vs.length=(i-zs.length) *F+k:=by
      rw[hvl,h3,Nat.sub_mul]
      have:zs.length *F<=i *F:=jB _ af
      omega
     rw[ga (by rw[hvl,h3];have:zs.length *F<=i *F:=jB _ (by omega);omega),e3];exact MS _ vp
   .grind
   .rcases mem u D with D|rfl
    .rcases hvg g hgv with hb|rfl
     .grind
     .have:=(hok.block _ (hinu u D _ B)).2.1;omega
    .simp[bC] at B
   .have split:∀q z,(vu++H.map λ_=>(.slice none 0 0))[q]? =some z->∀g,bC z=some g->vu[q]? =some z:=λq z hz g B=>by
     by_cases hq:q<vu.length
     .rwa[dD hq] at hz
     .rw[ga af] at hz;simp only[dF,bZ] at hz;obtain⟨c,_,e1⟩:=hz;subst e1;simp[bC] at B
    exact h7 i j u v (split i u D g B) (split j v hv g hg') hij g B hg') (λj oj hj O g B=>by
   have hj':st.ob j=some oj:=by
    by_cases e':id=j
    .omega
    .simpa only[bu _ _ e'] using hj
   rcases jP.1 B with B|⟨u,D,B⟩
   .rcases hvg g B with hb|rfl
    .exact G.apart _ j _ _ V hj' (λe=>O e.symm) g (hinm g hb)
    .intro hbj;have:=((G.obs j _ hj').block _ hbj).2.1;omega
   .rcases mem u D with D|rfl
    .exact G.apart _ j _ _ V hj' (λe=>O e.symm) g (hinu u D g B)
    .simp[bC] at B)
 have heq:∀o',St.new { st with ob:=put st.ob id none } id o'=St.new st id _:=λo'=>by
  simp[St.new,St.dG];congr 1;funext k;by_cases e':id=k
  .subst e';simp[cu]
  simp_all[bu]
 rw[heq] at h2';exact hK _ _ _ _ (h2'.set (λi S=>by simp_all) (rowS' (by rfl)))
def FZ {t k e:TypeId} {r:Option Operand} (z:Rel N w0 μ0 L μ loc st a w) (F:P.underlying t=some (.map k e)) (B:uF P st r=true):(Instr.makeMap t (r.map a.eval)).run P w= .ok (.map (some w.heap.size)) (w.alloc (.map #[] 0)):=by
 have l:(Instr.makeMap t (r.map a.eval)).run P w= .ok (.map (some w.heap.size)) (w.alloc (.map #[] 0)):=by cases r with
  |none=>rfl
  |some x=>simp[uF] at B;cases D:(bz P 0 st x).bind iJ with
   |none=>simp_all
   |some y=>cases y with
    |int q n=>have:=fu z D;simp_all[rep,Instr.makeMap,bJ,asInt,asIntOf]
    |_=>simp_all
 omega
def Qd {o:Oper} {t k e:TypeId} {r:Option Operand} {d:Nat} (q:Rel N w0 μ0 L μ loc st a w) (D:d<N) (l:o.dst=some d) (I:o.op= .makeMap t r) (H:P.underlying t=some (.map k e))
  (G:uF P st r=true) (B:mM N w0 μ0 L ((st.new d (.mp k e [] [])).set (some d) (.row d)) K):o.uB P a w K Q:=by
 have z:=FZ q H G;refine gI (v:= .map (some w.heap.size)) (w':=w.alloc (.map #[] 0)) (by simp_all[execOp]) ?_;rw[l];refine B _ _ _ _ (q.made D (λg F=>ur.1 F) ?_ ?_)
 .refine⟨_, #[],0,cv _ _ _, .inl q.grown,(by show(w.heap.push _)[w.heap.size]? =_;simp),u9 q _ (aU _),by rfl,by rfl,⟨ah,ah⟩⟩
 .exact Jw rfl
def Uk {key x:AV} {z B:Value} (h:vK key x=some true) (l:rep μ key z) (q:rep μ x B):z=B/\key=x:=by
 unfold vK at h;split at h
 .rw[rep] at l q;simp_all
 .split at h
  .rw[rep] at l q;simp_all
  grind
 .rw[rep] at l q;simp_all
 grind
def DK {q:Value} {key:AV} (B:rep μ key q) {z:TypeId} (l:jE P z key=true) (w:World):(Instr.keyThatStays q q).run P w= .ok q w:=by
 have D:∀n,Instr.sameBits n q q=true:=by
  unfold jE at l;split at l
  .simp_all[rep,Instr.sameBits,adi]
  .simp_all[rep,Instr.sameBits]
  .simp_all[rep,Instr.sameBits]
  .cases l
 simp_all[Instr.keyThatStays]
theorem Cp {xs:List AV} {l:List Value} (h:cn μ xs l) {i:Nat} {x:AV} {v:Value} (z:rep μ x v):cn μ (xs.set i x) (l.set i v):=by induction xs generalizing l i with
 |nil=>simp_all[cn]
 |cons y xs D=>obtain⟨u,F,rfl,B,q⟩:=h;cases i with
  |zero=>simpa using bN z q
  |succ i=>simp_all[bN]
def BC {t kt et:TypeId} {b:Nat} {cN:Array MapEntry} {q:Nat} {key:AV} {kv x:Value} {ks:List AV} {r:Option Nat} (hu:P.underlying t=some (.map kt et)) (hh:w.heap[b]? =some (.map cN q)) (F:rep μ key kv) (H:jE P kt key=true)
  (h1:cn μ ks (cN.toList.map (·.key))) (hf:pJ key ks=some r):
  ∃l B,(Instr.mapUpdate t (.map (some b)) kv x).run P w= .ok () { w with heap:=w.heap.setIfInBounds b (.map l B) }/\
   (r=none->cn μ (ks++[key]) (l.toList.map (·.key))/\l.toList.map (·.val)=cN.toList.map (·.val)++[x])/\
   (∀j,r=some j->cn μ ks (l.toList.map (·.key))/\l.toList.map (·.val)=(cN.toList.map (·.val)).set j x/\j<cN.size)/\(Xr cN q->Xr l B):=by
 have S:=og F H h1 hf w;cases r with
 |none=>
  refine⟨cN.push { key:=kv,val:=x,born:=q },q+1,?_,λ_=>⟨?_,ah⟩,(λj e=>by cases e),λR=>⟨λy G=> ?_,?_⟩⟩
  .simp[Instr.mapUpdate,bJ hu,ic hh,iT F H,S,setObj,Sem.run,hh]
  .simp_all[nJ,bN,dg]
  .rw[Array.toList_push,bw] at G;rcases G with G|G
   .have:=R.1 y G;omega
   simp_all
  .rw[Array.toList_push,bM,gW];refine⟨R.2,by simp,λa ha b hb=> ?_⟩;obtain⟨y,G,rfl⟩:=aD.1 ha;simp at hb;have:=R.1 y G;omega
 |some j=>
  obtain⟨e,he,U,y,G,hyk⟩:=S;obtain⟨yv,V,hyr⟩:=sw h1 G;have I :=by simpa using he
  have QJ :=by simp[I] at V;exact V.symm
  subst QJ;obtain⟨O,_⟩:=Uk hyk F hyr;have D:(cN.modify j λe=>{ e with key:=kv,val:=x }).toList.map (·.born)=cN.toList.map (·.born):=by
   apply kq;intro i;by_cases e1:j=i
   .simp_all
   .simp[e1]
  refine⟨_,q,?_,(λe=>by cases e),(λj' ej=> ?_),λR=>⟨λy G=> ?_,by rw[D];exact R.2⟩⟩
  rotate_right
  .have hm:y.born∈cN.toList.map (·.born):=by rw[<-D];exact aD.2 ⟨y,G,rfl⟩
   obtain⟨z,hz,e⟩:=aD.1 hm;rw[<-e];exact R.1 z hz
  .simp[Instr.mapUpdate,bJ hu,ic hh,iT F H,U,I,<-O,DK F H,setObj,Sem.run,hh]
  .injection ej with ej;subst ej;refine⟨?_,?_,(eE.1 I).1⟩
   .have:(cN.modify j λe=>{ e with key:=kv,val:=x }).toList.map (·.key)=cN.toList.map (·.key):=by
     apply kq;intro i;by_cases e1:j=i
     .simp_all
     .simp[e1]
    simp_all
   .apply kq;grind
def Dv {o:Oper} {t:TypeId} {m k x:Operand} (hR:Rel N w0 μ0 L μ loc st a w) (H:o.dst=none) (U:o.op= .mapUpdate t m k x\/o.op= .insert t m k x) (h:wY P st t m k x=some st')
  (hK:mM N w0 μ0 L st' K):o.uB P a w K Q:=by
 unfold wY at h;split at h
 .rename_i kt et hu;split at h
  .rename_i st1 B;obtain⟨F,z⟩:∃F,Rel N w0 μ0 L F loc st1 a w:=by
    unfold Um at B;split at B
    .grind
    .obtain⟨μ',_,h'⟩:=hR.dL B;grind
    simp_all
   split at h
   .rename_i id key v hm hk hx;split at h
    .rename_i k' e' ks vs I;cases hc:(jE P kt key&&v.F6) with
     |false=>simp_all
     |true=>
      simp[hc] at h;simp at hc;split at h
      .rename_i ks' vs' R;injection h with h;subst h;obtain⟨b,cN,V,hl,O,hh,xD,h1,h2,hB⟩:=z.obs _ _ I;have IC:a.eval m= .map (some b):=by
        have:=aY z hm;rw[this,hl];rfl
       have hkr:=fu z hk;have hxr:=fu z hx;have S:∃l q,(Instr.mapUpdate t (a.eval m) (a.eval k) (a.eval x)).run P w= .ok () { w with heap:=w.heap.setIfInBounds b (.map l q) }/\cn F ks' (l.toList.map (·.key))/\cn F vs' (l.toList.map (·.val))/\Xr l q:=by unfold Cf at R;cases hf:pJ key ks with
        |none=>simp_all
        |some r=>obtain⟨l,q,G,q1,q2,q3⟩:=BC (x:=a.eval x) hu hh hkr hc.1 h1 hf;grind[nJ,bN,dg,Cp]
       obtain⟨l,q,G,r1,r2,r3⟩:=S;have hlt:=(eE.1 hh).1;have D:=z.write I (by rw[hl];exact ur.2 rfl) (w':={ w with heap:=w.heap.setIfInBounds b (.map l q) }) (o':= .mp k' e' _ _) (λb' hb'=>by grind) rfl rfl rfl ah ⟨b,_,_,hl,O,by simp[hlt],xD,r1,r2,r3⟩
       have:((execOp a.eval o).run P w)= .ok .skip { w with heap:=w.heap.setIfInBounds b (.map l q) }:=by unfold execOp;rcases U with U|U<;>rw[U]<;>simp[G]
       exact EA this (by rw[H];exact hK _ _ _ _ D)
      grind
    grind
   grind
  grind
 grind
def D4 {xs:List AV} {l:List Value} (h:cn μ xs l) (i:Nat):cn μ (xs.eraseIdx i) (l.eraseIdx i):=by induction xs generalizing l i with
 |nil=>simp_all[cn]
 |cons x xs B=>obtain⟨u,D,rfl,q,z⟩:=h;cases i with
  |zero=>assumption
  |succ i=>simp_all[bN]
def Lx {q B:Type} (f:q->B) (l:List q) (j:Nat):(l.eraseIdx j).map f=(l.map f).eraseIdx j:=by induction l generalizing j with
 |nil=>rfl
 |cons x l z=>cases j with
  |zero=>rfl
  |succ j=>simp[z]
theorem Tv {o:Oper} {c:Call} {t:TypeId} {ts:List TypeId} {m k:Operand} (hR:Rel N w0 μ0 L μ loc st a w) (O:o.dst=none) (ho:o.op= .call c) (hc:c.callee= .builtin .delete) (ha:c.args.toList=[m,k]) (ht:c.argTypes.toList=t::ts) (h:wX P st t m k=some st')
  (hK:mM N w0 μ0 L st' K):o.uB P a w K Q:=by
 obtain⟨callee,⟨args⟩,⟨I⟩⟩:=c;simp only at hc ha ht;subst hc;subst ha;subst ht;unfold wX at h;split at h
 .rename_i kt et hu;split at h
  .rename_i id key hm hk;split at h
   .rename_i k' e' ks vs U;cases B:jE P kt key with
    |false=>simp_all
    |true=>
     simp only[B,ai] at h;split at h
     .rename_i ks' vs' z;injection h with h;subst h;obtain⟨b,cN,q,hl,V,R,xD,h1,h2,hB⟩:=hR.obs id _ U;have S:a.eval m= .map (some b):=by
       have:=aY hR hm;simp only[gH] at this;rw[this,hl];rfl
      have H:=fu hR hk;have key1:∃l,(Builtin.delete_ (t::ts).toArray o.type #[a.eval m,a.eval k]).run P w= .ok (.tuple #[]) { w with heap:=w.heap.setIfInBounds b (.map l q) }/\cn μ ks' (l.toList.map (·.key))/\cn μ vs' (l.toList.map (·.val))/\Xr l q:=by unfold mdel at z;cases hf:pJ key ks with
       |none=>simp_all
       |some r=>have G:=og H B h1 hf w;cases r with
        |none=>simp only[hf,aN,bB] at z;obtain⟨rfl,rfl⟩:=z;simp only[] at G;exact⟨cN,by simp[Builtin.delete_,S,bJ hu,ic R,iT H B,G,setObj,Sem.run,R],h1,h2,hB⟩
        |some j=>
         simp[hf] at z;obtain⟨rfl,rfl⟩:=z;obtain⟨e,he,F,_⟩:=G;refine⟨cN.eraseIdxIfInBounds j,by simp[Builtin.delete_,S,bJ hu,ic R,iT H B,F,setObj,Sem.run,R],?_,?_,⟨λy hy=>hB.1 y (by grind),by rw[Array.toList_eraseIdxIfInBounds];exact hB.2.sublist ((List.eraseIdx_sublist _ _).map _)⟩⟩
         .simp_all[D4,Lx]
         simp_all[D4,Lx]
      obtain⟨l,F,r1,r2,r3⟩:=key1;have hlt:=(eE.1 R).1;have D:=hR.write U (by rw[hl];exact ur.2 rfl) (w':={ w with heap:=w.heap.setIfInBounds b (.map l q) }) (o':= .mp k' e' _ _) (λb' hb'=>by grind) rfl rfl rfl ah ⟨b,_,_,hl,V,by simp[hlt],xD,r1,r2,r3⟩
      refine gI (v:= .tuple #[]) (w':={ w with heap:=w.heap.setIfInBounds b (.map l q) }) (by
       unfold execOp;simp[resolve,invoke,builtin]
       simp_all) ?_
      rw[O];exact hK _ _ _ _ D
     grind
   grind
  grind
 grind
def yJ {id:Nat} {val:Value} {I:Array Value} (q:loc id= .tuple I) (l:fH val=fH (loc id)):∀{D:List pY} {B:List Value},j9 μ loc D B->j9 μ (rQ loc id val) D B
 |[],B,h=>h
 |c::D,B,⟨u,_,e,z,F⟩=>by refine⟨u,_,e,?_,yJ q l F⟩;cases c with
  |v a=>exact z
  |p j=>
   obtain⟨b,O,H⟩:=z;have G:j≠id:=λe=>by simp_all
   exact⟨b,by simp_all[cG],H⟩
  |r j=>
   show u=fH _;by_cases e:j=id
   .subst e;rw[cv,l];exact z
   .rw[cG _ _ e];exact z
theorem LO {id:Nat} {val:Value} {us:Array Value} (B:loc id= .tuple us) (l:fH val=fH (loc id)) {s:SV} {v:Value} (z:(∀q u,xm q (loc id) u->xm q val u)\/s.mentions (id+40000)=false) (k:gH μ loc s v):gH μ (rQ loc id val) s v:=by induction s generalizing v with
 |undef=>exact k
 |any=>exact k
 |pv y=>exact k
 |cp cs=>exact k
 |ptr j O=>
  obtain⟨b,G,F⟩:=k;have I:j≠id:=λe=>by simp_all
  exact⟨b,by simp_all[cG],F⟩
 |row j=>
  show v=fH _;by_cases e:j=id
  .subst e;rw[cv,l];exact k
  .rw[cG _ _ e];exact k
 |rp j V i O=>obtain⟨g,n,c,G,F⟩:=k;refine⟨g,n,c,?_,F⟩;grind[cv,cG]
 |sub j V lo hi=>
  obtain⟨A,n,c,S,c',G,F⟩:=k;have I:j≠id:=λe=>by simp_all
  exact⟨A,n,c,S,c',by simp_all[cG],F⟩
 |cl f D=>obtain⟨R,e,H⟩:=k;exact⟨R,e,yJ B l H⟩
 |ag D=>obtain⟨R,e,H,G⟩:=k;exact⟨R,e,yJ B l H,G⟩
 |aq j q=>
  show xm q _ v;by_cases e:j=id
  .subst e;rw[cv];rcases z with z|z
   .exact z q v k
   simp_all[SV.mentions]
  .rw[cG _ _ e];exact k
 |two s b U=>obtain⟨y,e,k⟩:=k;exact⟨y,e,U z k⟩
def Jt {id:Nat} {val:Value} {O:Array Value} (z:loc id= .tuple O) (l:fH val=fH (loc id)):∀{D:List SV} {F:List Value},((∀q u,xm q (loc id) u->xm q val u)\/∀c∈D,c.mentions (id+40000)=false)->iF μ loc D F->iF μ (rQ loc id val) D F
 |[],F,_,h=>h
 |c::D,F,B,⟨u,_,e,G,H⟩=>⟨u,_,e,LO z l (B.imp (λh=>h) λh=>h c ah) G,Jt z l (B.imp (λh=>h) λh c I=>h c (by simp[I])) H⟩
def noAt (id:Nat):Ob->Prop
 | .box _ cells=>∀c∈cells,c.mentions (id+40000)=false
 |_=>True
def Ys {V:Nat} {i id:Nat} {val:Value} {D:Array Value} (H:loc id= .tuple D) (B:fH val=fH (loc id)) {o:Ob} (O:(∀q u,xm q (loc id) u->xm q val u)\/noAt id o) (h:lU V L μ loc w i o) (hne:i≠id):lU V L μ (rQ loc id val) w i o:=by cases o with
 |box t cells=>obtain⟨b,F,G,ho,hh,R,hs,I⟩:=h;exact⟨b,F,by simp_all[cG],ho,hh,R,Jt H B O hs,I⟩
 |row e sz xs=>obtain⟨F,U,S,R⟩:=h;refine⟨F,by simp_all[cG],S,λg hg=>R g (by simp_all[cG])⟩
 |mp k e ks es=>obtain⟨b,cN,z,G,l⟩:=h;exact⟨b,_,_,by simp_all[cG],l⟩
 |mr k e sz ks F=>obtain⟨b,cN,z,D,G,l⟩:=h;exact⟨b,_,_,D,by simp_all[cG],l⟩
 |it s pos=>obtain⟨b,G,l⟩:=h;exact⟨b,by simp_all[cG],l⟩
 |lp xs=>obtain⟨D,G,I,h2⟩:=h;exact⟨D,by simp_all[cG],λg hg=>I g (by simp_all[cG]),h2⟩
 |rn e sz k e' sz' xs ys=>obtain⟨m,D,F,G,l⟩:=h;exact⟨m,D,F,by simp_all[cG],l⟩
def mr_at {id b:Nat} {B:List Value} {val:Value} {X:Prop} (z:loc id= .tuple (.map (some b)::B).toArray):(∀q u,xm q (loc id) u->xm q val u)\/X:= .inl λq u l=>by rw[z] at l;cases q with
 |full=>obtain⟨A,n,c,e,_⟩:=l;cases e
 |nr q=>obtain⟨G,D,e,⟨A,n,c,F⟩,_⟩:=l;simp_all
def Rel.WR (D:Rel N w0 μ0 L μ loc st a w) {id:Nat} {o o':Ob} {val:Value} {us:Array Value} (ho:st.ob id=some o) (S:loc id= .tuple us) (F:fH val=fH (loc id)) (B:id<10000) {g:Nat} (hg:jw (loc id) g) {w':World}
  (I:∀b,b≠g->w'.heap[b]? =w.heap[b]?) (hos:w'.os=w.os) (H:w'.tape=w.tape) (O:w'.output=w.output) (hsz:w'.heap.size=w.heap.size)
  (sg:lU w0.heap.size L μ (rQ loc id val) w' id o') (hap:∀j oj,st.ob j=some oj->j≠id->∀q,jw val q->¬jw (loc j) q) (hat:(∀q u,xm q (loc id) u->xm q val u)\/((∀i s,st.env i=some s->s.mentions (id+40000)=false)/\∀i V,st.ob i=some V->noAt id V)) (hdr:L.q->w.drawn<=w'.drawn:=by exact λ_=>aU _):Rel N w0 μ0 L μ (rQ loc id val) { st with ob:=put st.ob id (some o') } a w':=by
 obtain⟨R,hlt,xD⟩:=(D.obs _ o ho).block g hg
 have l:=(D.drop id).world (Mu.le.refl _) (λ_ _ _ h=> .inl h) (λb j v h=>by
   have:=D.uy b j v h
   grind[fP]) (λi V z b hb=>by
   by_cases e:id=i
   .subst e;simp[cu] at z
   .simp[bu _ _ e] at z;have G:b≠g:=λe'=>by subst e';exact D.apart _ i o _ ho z e b hg hb
    exact⟨I b G,((D.obs i _ z).block b hb).2.2⟩) (λb hb hl=>by
   refine I b (λe=> ?_);subst e;rcases R with h|⟨v,U,h⟩
   .omega
   .exact hl ⟨id,v,U,h⟩) hos H O af hdr
 refine⟨l.small,l.names,?_,l.size,l.defers,?_,l.uy,l.base,?_,?_,l.keep,l.os,l.tape,l.output,l.grown,l.drawn⟩
 .intro i v U z;have G:i≠id:=λe=>by subst e;rw[D.names i B] at U;grind
  rw[cG _ _ G];exact D.fix i v U z
 .intro i s z;obtain⟨v,U,hr⟩:=l.env i s z;grind[LO]
 .intro i V z;by_cases e:id=i
  .simp_all[cu]
  .simp[bu _ _ e] at z;exact Ys S F (hat.imp (λh=>h) λh=>h.2 i _ z) (l.obs i _ (by simp_all[bu])) (cO e)
 .intro i j V oj z hj hij q hq;by_cases ei:id=i
  .simp_all[bu,cv,cG,cO]
  .simp[bu _ _ ei] at z;rw[cG _ _ (cO ei)] at hq;by_cases ej:id=j
   .grind[cv]
   .simp[bu _ _ ej] at hj;rw[cG _ _ (cO ej)];exact D.apart i j _ _ z hj hij q hq
def Rel.G8 (l:Rel N w0 μ0 L μ loc st a w) (id:Nat):Rel N w0 μ0 L μ loc (st.dG id) a w:=by
 have V:rQ loc id (loc id)=loc:=funext λi=>by grind[cv,cG]
 have q:∀i D,(st.dG id).ob i=some D->i≠id/\∃F,st.ob i=some F/\D=F.dG id:=λi D h=>by
  by_cases e:id=i
  .simp_all[St.dG,cu]
  .simp[St.dG,bu _ _ e,bZ] at h;grind
 refine⟨l.small,l.names,l.fix,l.size,l.defers,?_,l.uy,l.base,?_,?_,l.keep,l.os,l.tape,l.output,l.grown,l.drawn⟩
 .intro i s z;simp[St.dG,bZ] at z;obtain⟨s',B,rfl⟩:=z;obtain⟨v,hv,U⟩:=l.env i _ B;simp_all[jG]
 .intro i D z;obtain⟨H,F,B,rfl⟩:=q i _ z;have:=Cl (x:=loc id) (l.obs i _ B) H;simp_all
 .intro i j D F z O G;obtain⟨_,R,B,_⟩:=q i _ z;obtain⟨_,S,I,_⟩:=q j _ O;exact l.apart i j _ _ B I G
def Ab {t:TypeId} {m k:Operand} {B:TypeId} {id:Nat} {key:AV} {k' e:TypeId} {F:Nat} {D:List AV} {G:List (Option (List (List AV)))} (h:LA P st t m k=some (B,id,key,k',e,F,D,G)):
  ∃q,P.underlying t=some (.map q B)/\bz P t st m=some (.row id)/\(bz P q st k).bind iJ =some key/\st.ob id=some (.mr k' e F D G)/\jE P q key=true/\id<10000:=by
 unfold LA at h;split at h
 .rename_i q H S;split at h
  .rename_i z l R O;split at h
   .cases I:(jE P q l&&Nat.blt z 10000) with
    |false=>simp_all
    |true=>simp_all
   grind
  grind
 grind
def Sy {t:TypeId} {s:Nat} (h:pH P t=some (.dK s [])) (w:World):(zeroValue t).run P w= .ok (.slice none 0 0) w:=by
 unfold pH at h;split at h
 .split at h
  .simp_all
  .unfold ofConst at h;split at h
   .cases h
   .cases h
   .cases h
   .simp_all[zeroValue,typeInfo]
   .cases h
   .cases h
   .grind
   grind
  grind
 grind
def K0 {o:Oper} {t:TypeId} {x:Operand} {d:Nat} (V:Rel N w0 μ0 L μ loc st a w) (hd:d<N) (zj:o.dst=some d) (ho:o.op= .load t x) (h:vX P st t x d=some st') (hK:mM N w0 μ0 L st' K):o.uB P a w K Q:=by
 unfold vX at h;split at h
 .rename_i id sz i off O hagg;split at h
  .rename_i e sz' k e' s' xs ys S;split at h
   .rename_i zs hvi;cases hb:(Nat.beq sz sz'&&Nat.beq off k&& !(Nat.beq id d)&&Nat.blt id 10000) with
    |false=>simp_all
    |true=>
    rw[hb] at h;simp only[ai,aN] at h;subst h;simp only[aJ,iA] at hb;obtain⟨⟨⟨b1,b2⟩,b3⟩,b4⟩:=hb;have e1:=beq_iff.1 b1;have e2:=beq_iff.1 b2;subst e1 e2;have hne:id≠d:=λe=>by simp_all
    have hid:id<10000:=cD.mp b4;have hd':d<10000:=eO hd V.small;obtain⟨g,n,c,H,hxa⟩:=aY V O;obtain⟨m,us,vs,hl,hm,U,hrc,hk,h2,h3,h4,h5,h6,h7⟩:=V.obs id _ S;obtain⟨u,cells,k1,k2,k3,k4,k5⟩:=h4 i zs hvi;have IC:m= .slice (some ⟨g,0,none⟩) n c:=by rw[hl] at H;exact H
    have I:=U.cells (g:=g) (by rw[IC];rfl) _ _ k2;rw[add_lit,gy] at I
    refine gI (v:=u) (w':=w) (by
     unfold execOp;rw[ho]
     simp[hxa,Instr.loadAt,Instr.sureAddr,loadVar,qK hagg,I]) ?_
    rw[zj];have hil:i<us.length:=(bF.1 k1).1;have hLid:∀{q},E6 w0.heap.size L id q->w0.heap.size<=q:=λ{q} B=>by
     rcases B with B|⟨v,hv,_⟩
     .exact B
     .rw[V.names id hid] at hv;cases hv
    have r1:=V.WR (id:=id) (o':= .rn e sz off e' s' xs (ys.set i none)) (val:= .tuple (m::us.set i undef).toArray) (g:=g) (w':=w) S hl (by rw[hl];rfl) hid (by rw[hl];exact jP.2 (.inl (by rw[IC];rfl))) (λ_ _=>rfl) rfl rfl rfl rfl (by
      have und:∀(q:Nat) (z:Value),(us.set i undef)[q]? =some z->∀g,bC z=some g->us[q]? =some z:=λq z F g D=>by
       by_cases l:q=i
       .rw[l,lq hil] at F;injection F with F;subst F;simp[undef,bC] at D
       grind
      refine⟨m,us.set i undef,vs,cv _ _ _,hm,U,hrc,hk,by simp[h2],by simp[h3],λq zs' B=> ?_,λq B=> ?_,λz F g D=> ?_,λq q' x y O hy hqq g D hg'=>h7 q q' x y (und q x O g D) (und q' y hy g hg') hqq g D hg'⟩
      .have l:q≠i:=λe=>by subst e;simp[qC] at B
       rw[gB (cO l)] at B;obtain⟨u',R,m1,m2⟩:=h4 q zs' B;exact⟨u',R,by rw[gB (cO l)];exact m1,m2⟩
      .by_cases l:q=i
       .subst l;simp[qC,hil]
       .rw[gB (cO l)] at B;rw[gB (cO l)];exact h5 q B
      .rcases mN F with F|rfl
       .exact h6 z F g D
       .simp[undef,bC] at D) (λj oj hj G q B=>by
      refine λLo=>V.apart _ j _ _ S hj (cO G) q ?_ Lo
      rw[hl];rcases jP.1 B with B|⟨z,F,VZ⟩
      .exact jP.2 (.inl B)
      .rcases mN F with F|rfl
       .exact jP.2 (.inr ⟨z,F,VZ⟩)
       .simp[undef,bC] at VZ) (.inl λq u B=>by
      rw[hl] at B;cases q with
      |full=>obtain⟨A,n,c,e,_⟩:=B;cases e
      |nr q=>
       obtain⟨m',us',e,h1,h2⟩:=B;have e':=aK Array.toList (Value.tuple.inj e);obtain⟨rfl,rfl⟩:=e';refine⟨m,_,rfl,h1,λx O=> ?_⟩;by_cases l:q=i
       .subst l;rw[lq hil] at O;injection O with O;exact .inl O.symm
       .rw[gB (cO l)] at O;exact h2 x O)
    have FR:fH u=u:=by rcases k3.2 with⟨e1,_⟩|⟨g,cap,cur,e1,_⟩<;>rw[e1]<;>rfl
    have hin:∀g,jw u g->bC u=some g:=λg D=>by rcases k3.2 with⟨e1,_⟩|⟨g',cap,cur,e1,_⟩<;>rw[e1] at D⊢<;>exact ia.1 D
    have r2:=r1.new (o:= .row _ _ _) (.inl hd') (by
      refine⟨_,by rw[cv];omega,k4,λg D=> ?_⟩;rw[cv] at D;obtain⟨m1,m2⟩:=k5 g (hin g D)
      exact⟨.inl (hLid m1),m2⟩) (λj oj hj hjd g D=>by
      by_cases G:id=j
      .subst G;rw[cv];intro hb;rcases jP.1 hb with B|⟨z,F,VZ⟩
       .grind
       .obtain⟨q,B,eq⟩:=iz.1 F;have hq':(us.set i undef)[q]? =some z:=by grind
        by_cases l:q=i
        .grind[undef,bC]
        grind
      .simp[bu _ _ G] at hj;rw[cG _ _ (cO G)]
       exact V.apart _ j _ _ S hj G g (by grind[jP]))
    exact hK _ _ _ _ (r2.set (λi hi=>by simp_all) (Jw FR))
   grind
  grind
 grind
def R3 {q:Type}:∀{l:List q} {k:Nat} {a:q},l[k]? =some a->l.set k a=l
 |[],_,_,h=>by simp at h
 |x::l,0,a,h=>by simp_all
 |x::l,k+1,a,h=>by simp at h;simp[R3 h]
def BL {q k:Nat} {u:Value} (U:k<q) (F:rep μ .hole u):∀{xs:List (List AV)} {B:List Value} {i:Nat},c4 μ q xs B->i<xs.length->(∀c∈xs,c[k]? =some AV.hole)->
  c4 μ q xs (B.set (i *q+k) u)/\i *q+k<B.length
 |[],_,_,_,h,_=>by simp at h
 |x::xs,B,i,⟨O,ws,e,D,H,I⟩,hi,l=>by subst e;have V:=l x ah;have S:=F;rw[rep] at S;cases i with
  |zero=>
   rw[zH,gy,CL _ _ af];refine⟨⟨_,ws,rfl,⟨?_,λz G=> ?_⟩,by simp[H],I⟩,aF⟩
   .have:=Cp D.1 (i:=k) F;rwa[R3 V] at this
   .rcases mN G with G|rfl
    .exact D.2 z G
    simp_all
  |succ i=>
   obtain⟨r1,r2⟩:=BL U F I (i:=i) (by simp_all) λc R=>l c (by simp[R])
   have e1:(i+1) *q+k-O.length=i *q+k:=by rw[sU];omega
   rw[mO _ _ (by grind),e1];exact⟨⟨O,_,rfl,D,H,r1⟩,by grind⟩
def RC {e:TypeId} {H:Nat} {m u:Value} {n p:Nat} {B:List Value} (h:w.ownsRow 0 e H m n B) (hp:p<B.length) (hu:u.oneCell'=true):
  ∃g z q,m= .slice (some ⟨g,0,none⟩) n z/\(storeCells ⟨g,p,none⟩ [u] 0).run P w= .ok () q/\q.ownsRow 0 e H m n (B.set p u)/\(∀b,b≠g->q.heap[b]? =w.heap[b]?)/\q.os=w.os/\q.tape=w.tape/\q.output=w.output/\q.heap.size=w.heap.size/\q.drawn=w.drawn:=by
 rcases h.2 with⟨_,D⟩|⟨g,z,l,e1,_,F,O,R,V,G⟩
 .have:=h.1;simp_all
 .have U:p<l.size:=by
   have D:=aK List.length G;simp at D;omega
  refine⟨g,_,_,e1,vz P g p e _ 0 _ w F aF (by simp_all),⟨by simp[h.1], .inr ⟨g,_,_,e1,cZ _,zI w g _ _ e _ F,O,R,?_,?_⟩⟩,λb S=>vA w g b _ S,rfl,rfl,rfl,by simp,rfl⟩
  .simp;omega
  .have I:l.toList.take (p+0)++[u]++l.toList.drop (p+0+[u].length)=l.toList.set p u:=by
    rw[FC,az af];simp
   rw[I,List.take_set,G]
def RJ {o:Oper} {t:TypeId} {x y:Operand} {id sz i B j:Nat} (I:Rel N w0 μ0 L μ loc st a w) (zj:o.dst=none) (ho:o.op= .store t x y) (hx:bz P 0 st x=some (.rp id sz i B)) (hy:bz P t st y=some (.row j))
  (h:Gd P st t id sz i B j=some st') (hK:mM N w0 μ0 L st' K):o.uB P a w K Q:=by
 unfold Gd at h;split at h
 .rename_i e sz' k e' s' xs ys e2 s2 zs hagg hsz U D;cases G:(Nat.beq sz sz'&&Nat.beq B k&&Nat.blt id 10000&&Nat.blt j 10000&&Nat.beq e' e2&&Nat.beq s' s2&&Nat.blt i ys.length&& !(Nat.beq id j)) with
  |false=>simp_all
  |true=>
  rw[G] at h;simp only[ai,aN] at h;subst h;simp only[aJ,iA] at G;obtain⟨⟨⟨⟨⟨⟨⟨b1,b2⟩,b3⟩,b4⟩,b5⟩,b6⟩,b7⟩,b8⟩:=G;have c1:=beq_iff.1 b1;have c2:=beq_iff.1 b2;have c5:=beq_iff.1 b5;have c6:=beq_iff.1 b6;subst c1 c2 c5 c6;have hne:id≠j:=λe=>by simp_all
  have hid:id<10000:=cD.mp b3;have hj:j<10000:=cD.mp b4;have hil:i<ys.length:=cD.mp b7;obtain⟨g,n,c,O,hxa⟩:=aY I hx;have Pu:a.eval y=loc j:=(aY I hy:a.eval y=fH (loc j)).trans (iS (I.obs j _ D));obtain⟨cells,hrow,Ya,hgj⟩:=I.obs j _ D;obtain⟨m,us,vs,hl,hm,hown,hrc,hk,h2,h3,h4,h5,h6,h7⟩:=I.obs id _ U;have IC:m= .slice (some ⟨g,0,none⟩) n c:=by rw[hl] at O;exact O
  have S:rep μ .hole (loc j):=by rcases hrow.2 with⟨e1,_⟩|⟨g',cap,cur,e1,_⟩<;>rw[e1]<;>simp[rep,Value.oneCell',Value.cells]
  have V:(loc j).oneCell'=true/\(loc j).cells= #[loc j]:=by simpa[rep] using S
  obtain⟨aaz,hp⟩:=BL hk.1 S hrc (i:=i) af hk.2;obtain⟨g',cap,w',e1,hrun,hown',hch,hos,htape,hout,hsize,hdr⟩:=RC (P:=P) hown hp V.1;have eg:g=g':=by rw[IC] at e1;simp at e1;exact e1.1
  subst eg;have hin:∀q,jw (loc j) q->bC (loc j)=some q:=λq l=>by rcases hrow.2 with⟨e1,_⟩|⟨g',cap,cur,e1,_⟩<;>rw[e1] at l⊢<;>exact ia.1 l
  have R:∀q,bC (loc j)=some q->¬jw (loc id) q:=λq l=>I.apart j id _ _ D U (cO hne) q (.inl l)
  have hbm:∀q,bC (loc j)=some q->bC m≠some q:=λq l e=>R q l (by rw[hl];exact jP.2 (.inl e))
  have hbu:∀u∈us,∀q,bC u=some q->bC (loc j)≠some q:=λu hu q l e=>R q e (by rw[hl];exact jP.2 (.inr ⟨u,hu,l⟩))
  have hmg:bC m=some g:=by rw[IC];rfl
  refine EA (w':=w') (by
   unfold execOp;rw[ho];have h1:(a.eval y).cells.size=1:=by rw[Pu,V.2];rfl
   have h2:(a.eval y).cells.toList=[loc j]:=by rw[Pu,V.2]
   simp only[Instr.storeAt,hxa,Instr.sureAddr,fW,lg,gO,storeVar,kz hsz,h1,h2,ne_eq,qz,eC,hrun]) ?_
  rw[zj];have hob1:((st.dG j).dG (id+40000)).ob id=some (.rn e sz B e' s' xs ys):=by have hne2:id+40000≠id:=af;simp[St.dG,bu _ _ (cO hne),bu _ _ hne2,U,Ob.dG]
  have hnm:∀(s:SV) (q:Nat),(s.dG q).mentions q=false:=λs q=>by unfold SV.dG;cases h:s.mentions q with
   |true=>rfl
   |false=>exact h
  have iu:i<us.length:=af
  refine hK _ _ _ _ (((I.G8 j).G8 (id+40000)).WR (id:=id) (o':= .rn e sz B e' s' xs (ys.set i (some zs))) (val:= .tuple (m::us.set i (loc j)).toArray) (g:=g) (w':=w') hob1 hl (by rw[hl];rfl) hid (by rw[hl];exact jP.2 (.inl hmg)) hch hos htape hout hsize ?_ (λq oj l H z F VZ=> ?_) (.inr ⟨λt s hs=>by
   simp only[St.dG,bZ] at hs;obtain⟨s',_,rfl⟩:=hs;exact hnm _ _,λt o ho'=>by
   by_cases e:id+40000=t
   .subst e;simp[St.dG,cu] at ho'
   .simp only[St.dG,bu _ _ e,bZ] at ho';obtain⟨o1,_,rfl⟩:=ho';cases o1<;>simp only[Ob.dG,noAt];intro c hc;obtain⟨c',_,rfl⟩:=aD.1 hc
    exact hnm _ _⟩) (λ_=>by omega))
  .have split:∀q z,(us.set i (loc j))[q]? =some z->us[q]? =some z/\q≠i\/q=i/\z=loc j:=λq z F=>by
    by_cases l:q=i
    .subst l;rw[lq iu] at F;injection F with F;exact .inr ⟨rfl,F.symm⟩
    .rw[gB (cO l)] at F;exact .inl ⟨F,l⟩
   refine⟨m,us.set i (loc j),vs.set (i *sz+B) (loc j),cv _ _ _,hm,hown',aaz,hk,by simp[h2],by simp[h3],λq zs' l=> ?_,λq l=> ?_,λz F q l=> ?_,λq q' z z' F hz' hqq b G hb'=> ?_⟩
   .by_cases H:q=i
    .subst H;rw[lq hil] at l;simp only[aN] at l;subst l;refine⟨loc j,cells,by rw[lq iu],by rw[lq hp],lH hrow (λb G=>hch b λe=>by subst e;exact hbm b G hmg),Ya,λb G=> ?_⟩;obtain⟨m1,m2⟩:=hgj b (.inl G);rcases m1 with m1|⟨v,hv,_⟩
     .exact⟨.inl m1,m2⟩
     .rw[I.names j hj] at hv;cases hv
    .rw[gB (cO H)] at l;obtain⟨u',cells',m1,m2,m3,m4,m5⟩:=h4 q zs' l;have hpq:i *sz+B≠q *sz+B:=λe=>H (Nat.eq_of_mul_eq_mul_right (jk (cZ _) hk.1) af)
     exact⟨u',_,by grind,by rw[gB hpq];exact m2,lH m3 (λb G=>hch b λe=>by grind),m4,m5⟩
   .grind
   .grind
   .rcases split q z F with⟨YZ,_⟩|⟨e1,e2⟩<;>rcases split _ _ hz' with⟨hv2,_⟩|⟨e3,e4⟩
    .exact h7 q _ z _ YZ hv2 hqq b G hb'
    .rw[e4] at hb';exact hbu z (aI YZ) b G hb'
    .rw[e2] at G;exact hbu _ (aI hv2) b hb' G
    .exact hqq (e1.trans e3.symm)
  .have hq4:id+40000≠q:=λe=>by subst e;simp[St.dG,cu] at l
   rw[St.dG] at l;simp[bu _ _ hq4,bZ] at l;obtain⟨oj0,l,_⟩:=l;have Lo:q≠j:=λe=>by simp_all[St.dG,cu]
   simp[St.dG,bu _ _ (cO Lo),bZ] at l;obtain⟨oj',hq',_⟩:=l;rcases jP.1 F with F|⟨u,hu,F⟩
   .exact I.apart _ q _ _ U hq' (cO H) z (by grind[jP]) VZ
   .rcases mN hu with hu|rfl
    .exact I.apart _ q _ _ U hq' (cO H) z (by grind[jP]) VZ
    .exact I.apart j q _ _ D hq' (cO Lo) z (.inl F) VZ
 grind
def Nk {o:Oper} {x:Operand} {id d:Nat} (q:Rel N w0 μ0 L μ loc st a w) (hd:d<N) (z:o.dst=some d) (ho:o.op= .assign x) (hx:bz P o.type st x=some (.row id)) (h:Uw st id d=some st') (V:mM N w0 μ0 L st' K):o.uB P a w K Q:=by
 unfold Uw at h;split at h
 .rename_i e sz xs l;cases B:Nat.beq _ d with
  |true=>rw[B] at h;simp at h;subst h;have:=beq_iff.1 B;subst this;have S :=(aY q hx).trans (iS (q.obs _ _ l));refine gI (v:=loc id) (w':=w) (by simp_all[execOp]) ?_;rw[z];exact V _ _ _ _ (q.set (λi hi=>by simp_all) ((iS (q.obs _ _ l)).symm))
  |false=>
  rw[B] at h;cases hb:Nat.blt id 10000 with
  |false=>simp_all
  |true=>
   rw[hb] at h;simp at h;subst h;have I :=cD.mp hb;have H :=eO hd q.small;have S :=(aY q hx).trans (iS (q.obs _ _ l));obtain⟨vs,hown,R,hm⟩:=q.obs _ _ l;have D:=iS (q.obs _ _ l);refine gI (v:=loc id) (w':=w) (by simp_all[execOp]) ?_;rw[z]
   have r1:=(q.G8 id).new (o:= .row e _ _) (.inl H) (by
     refine⟨vs,by rw[cv];omega,R,λg G=> ?_⟩;rw[cv] at G;obtain⟨U,m2⟩:=hm g G;rcases U with U|⟨v,hv,_⟩
     .exact⟨.inl U,m2⟩
     .rw[q.names _ I] at hv;grind) (λj oj hj hjd g G=>by
     by_cases F:id=j
     .simp_all[St.dG,cu]
     .simp[St.dG,bu _ _ F,bZ] at hj;obtain⟨oj',O,_⟩:=hj
      exact q.apart _ j _ _ l O F g G)
   exact V _ _ _ _ (r1.set (λi hi=>by simp_all) (Jw D))
 grind
def XM {o:Oper} {t:TypeId} {m k:Operand} {d:Nat} (V:Rel N w0 μ0 L μ loc st a w) (hd:d<N) (zj:o.dst=some d) (ho:o.op= .lookup t m k false) (h:LB P st t m k d=some st') (hK:mM N w0 μ0 L st' K):o.uB P a w K Q:=by
 unfold LB at h;split at h
 .rename_i et id key k' e sz ks vs hmk;obtain⟨kt,hu,hm,hk,R,S,hid⟩:=Ab hmk;cases hdd:Nat.beq id d with
  |true=>rw[hdd] at h;cases h
  |false=>
  simp only[hdd,aA] at h;have hne:id≠d:=λe=>by simp_all
  obtain⟨b,cN,clock,us,hl,hown,hh,xD,h1,h2,h3,h4,h5,h6⟩:=V.obs id _ R;have IC:a.eval m= .map (some b):=by
   have:a.eval m=fH (loc id):=aY V hm
   rw[this,hl];rfl
  have O:=fu V hk;have hd':d<10000:=eO hd V.small;split at h
  .rename_i i hf;have hfk:=og O S h1 hf w;obtain⟨ent,he,hrun,_⟩:=hfk;split at h
   .rename_i xs hvi;injection h with h;subst h;obtain⟨u,cells,k1,k2,k3,k4,k5⟩:=h4 i xs hvi;have hval:u=ent.val:=by
     have he':cN[i]? =some ent:=by simpa using he
     simp[he'] at k2;exact k2.symm
    refine gI (v:=ent.val) (w':=w) (by
     unfold execOp;rw[ho]
     simp[IC,Instr.lookup,bJ hu,ic hh,iT O S,hrun]) ?_
    rw[zj,<-hval];have hil:i<us.length:=(bF.1 k1).1
    have r1:=V.WR (id:=id) (o':= .mr k' e sz ks (vs.set i none)) (val:= .tuple (.map (some b)::us.set i undef).toArray) (g:=b) (w':=w) R hl (by rw[hl];rfl) hid (by rw[hl];exact oh.2 (.inl rfl)) (λ_ _=>rfl) rfl rfl rfl rfl (by
      refine⟨b,cN,clock,us.set i undef,cv _ _ _,hown,hh,xD,h1,by simp[h2],by simp[h3],λq ys U=> ?_,λq U=> ?_,λq q' x y hx hy hqq g B=> ?_⟩
      .have l:q≠i:=λe=>by subst e;simp[qC] at U
       rw[gB (cO l)] at U;obtain⟨u',I,m1,m2⟩:=h4 q ys U;exact⟨u',I,by rw[gB (cO l)];exact m1,m2⟩
      .by_cases l:q=i
       .subst l;simp[qC,hil]
       .rw[gB (cO l)] at U;rw[gB (cO l)];exact h5 q U
      .have und:∀(q:Nat) (z:Value),(us.set i undef)[q]? =some z->∀g,bC z=some g->us[q]? =some z:=λq z F g B=>by
        by_cases l:q=i
        .rw[l,lq hil] at F;injection F with F;subst F;simp[undef,bC] at B
        .rwa[gB (cO l)] at F
       intro G
       exact h6 q q' x y (und q x hx g B) (und q' y hy g G) hqq g B G) (λj oj hj D q U=>by
      refine λLo=>V.apart id j _ oj R hj (cO D) q ?_ Lo
      rw[hl];rcases oh.1 U with rfl|⟨z,F,VZ⟩
      .exact oh.2 (.inl rfl)
      .rcases mN F with F|rfl
       .exact oh.2 (.inr ⟨z,F,VZ⟩)
       .simp[undef,bC] at VZ)
    have FR:fH u=u:=by rcases k3.2 with⟨e1,_⟩|⟨g,cap,cur,e1,_⟩<;>rw[e1]<;>rfl
    have hin:∀g,jw u g->bC u=some g:=λg B=>by rcases k3.2 with⟨e1,_⟩|⟨g',cap,cur,e1,_⟩<;>rw[e1] at B⊢<;>exact ia.1 B
    have r2:=(r1 (mr_at hl)).new (id:=d) (val:=u) (o:= .row e sz xs) (.inl hd') (by
      refine⟨cells,by rw[cv];omega,k4,λg B=> ?_⟩;rw[cv] at B;obtain⟨m1,m2⟩:=k5 g (hin g B)
      exact⟨.inl m1,m2⟩) (λj oj hj hjd g B=>by
      have H:=hin g B;by_cases D:id=j
      .subst D;rw[cv];intro hb;rcases oh.1 hb with rfl|⟨z,F,VZ⟩
       ·
        rcases k3.2 with⟨e1,_⟩|⟨g',cap,cur,e1,_,G,_⟩
        .rw[e1] at H;simp[bC] at H
        .rw[e1] at H;simp[bC] at H;subst H;rw[hh] at G;cases G
       .obtain⟨q,U,eq⟩:=iz.1 F;have hq':(us.set i undef)[q]? =some z:=by grind
        by_cases l:q=i
        .grind[undef,bC]
        grind
      .simp only[bu _ _ D] at hj;rw[cG _ _ (cO D)]
       exact V.apart id j _ oj R hj D g (by grind[oh]))
    exact hK _ _ _ _ (r2.set (λi hi=>by injection hi with hi;omega) (Jw FR))
   grind
  .rename_i hf;split at h
   .rename_i s0 e' s F hs;split at h
    .injection h with h;subst h;have hfk:=og O S h1 hf w;have hzr:=Sy F w
     refine gI (v:= .slice none 0 0) (w':=w) (by
      unfold execOp;rw[ho]
      simp[IC,Instr.lookup,bJ hu,ic hh,iT O S,hfk,hzr]) ?_
     rw[zj];refine hK _ _ _ _ ((V.new (.inl hd') ?_ (λj oj hj hne g B=>by simp[jw,bC] at B)).set (λi hi=>by simp_all) (Jw rfl));refine⟨[],⟨ah, .inl ⟨cv _ _ _,rfl⟩⟩,rfl,λg B=> ?_⟩;simp_all[cv,jw,bC]
    grind
   grind
  grind
 grind
def VH {o:Oper} {t kt et:TypeId} {m k x:Operand} {id:Nat} {key:AV} {k' e:TypeId} {sz:Nat} {ks ks':List AV} {vs vs':List (Option (List (List AV)))} {xs:List (List AV)} {cells:List Value}
  (hR:Rel N w0 μ0 L μ loc st a w) (zj:o.dst=none) (ho:o.op= .mapUpdate t m k x\/o.op= .insert t m k x) (G:P.underlying t=some (.map kt et)) (IC:a.eval m=fH (loc id)) (hkr:rep μ key (a.eval k)) (hok:jE P kt key=true)
  (R:st.ob id=some (.mr k' e sz ks vs)) (hid:id<10000) (D:Cf key (some xs) ks vs=some (ks',vs')) (S:w.ownsRow 0 e sz (a.eval x) xs.length cells) (hrc:c4 μ sz xs cells)
  (hg:∀g,bC (a.eval x)=some g->w0.heap.size<=g/\∀j,μ g j=none) (H:∀j oj,st.ob j=some oj->∀g,bC (a.eval x)=some g->¬jw (loc j) g)
  (hK:mM N w0 μ0 L { st with ob:=put st.ob id (some (.mr k' e sz ks' vs')) } K):o.uB P a w K Q:=by
 obtain⟨b,cN,clock,us,hl,hown,hh,xD,h1,h2,h3,h4,h5,h6⟩:=hR.obs id _ R;have hmv':a.eval m= .map (some b):=by rw[IC,hl];rfl
 cases hf:pJ key ks with
 |none=>simp[Cf,hf] at D
 |some r=>
 obtain⟨B,l,hrun,q1,q2,_⟩:=BC (x:=a.eval x) G hh hkr hok h1 hf;have hlt:=(eE.1 hh).1;have FR:∀g,jw (a.eval x) g->bC (a.eval x)=some g:=λg hg=>by rcases S.2 with⟨e1,_⟩|⟨g',cap,cur,e1,_⟩<;>rw[e1] at hg⊢<;>exact ia.1 hg
 have X6:bC (a.eval x)≠some b:=λe=>by
  rcases S.2 with⟨e1,_⟩|⟨g',cap,cur,e1,_,I,_⟩
  .rw[e1] at e;simp[bC] at e
  .rw[e1] at e;simp[bC] at e;subst e;rw[hh] at I;cases I
 have hnu:∀u∈us,∀g,bC u=some g->bC (a.eval x)≠some g:=λu G g F hgx=>H id _ R g hgx (by rw[hl];exact oh.2 (.inr ⟨u,G,F⟩))
 have other:∀(u:Value) (cs:List Value) (ys:List (List AV)),w.ownsRow 0 e sz u ys.length cs->bC u≠some b->World.ownsRow { w with heap:=w.heap.setIfInBounds b (.map B l) } 0 e sz u ys.length cs:=λu cs ys G hub=>
  lH G (λg hg=>by
   have:b≠g:=λe=>hub (by rw[e];exact hg)
   simp only[];rw[vt this])
 have hub:∀u∈us,bC u≠some b:=λu G e=>by
  obtain⟨i,ys,m1,m2⟩:=Uz h2 h5 G e;obtain⟨u',cells',n1,n2,n3,_⟩:=h4 i ys m1;rw[m2] at n1;injection n1 with n1;subst n1;rcases n3.2 with⟨e1,_⟩|⟨g',cap,cur,e1,_,I,_⟩
  .rw[e1] at e;simp[bC] at e
  .rw[e1] at e;simp[bC] at e;subst e;rw[hh] at I;cases I
 have fin:∀us',(∀u∈us',u∈us\/u=a.eval x)->lU w0.heap.size L μ (rQ loc id (.tuple (.map (some b)::us').toArray)) { w with heap:=w.heap.setIfInBounds b (.map B l) } id (.mr k' e sz ks' vs')->o.uB P a w K Q:=λus' By GF=>by
  have r1:=hR.WR (id:=id) (val:= .tuple (.map (some b)::us').toArray) (g:=b) (w':={ w with heap:=w.heap.setIfInBounds b (.map B l) }) R hl (by rw[hl];rfl) hid (by rw[hl];exact oh.2 (.inl rfl))
   (λb' hb'=>by simp only[];rw[vt (λe=>hb' e.symm)]) rfl rfl rfl ah GF (λj oj hj hji q hq=>by
    rcases oh.1 hq with rfl|⟨z,V,VZ⟩
    .exact λLo=>hR.apart id j _ oj R hj (cO hji) q (by rw[hl];exact oh.2 (.inl rfl)) Lo
    .rcases By z V with V|rfl
     .exact λLo=>hR.apart id j _ oj R hj (cO hji) q (by rw[hl];exact oh.2 (.inr ⟨z,V,VZ⟩)) Lo
     .exact H j oj hj q VZ)
  have:((execOp a.eval o).run P w)= .ok .skip { w with heap:=w.heap.setIfInBounds b (.map B l) }:=by unfold execOp;rcases ho with ho|ho<;>rw[ho]<;>simp[hmv',hrun]
  exact EA this (by rw[zj];exact hK _ _ _ _ (r1 (mr_at hl)))
 cases r with
 |none=>
  simp only[Cf,hf,aN,bB] at D;obtain⟨rfl,rfl⟩:=D;obtain⟨c1,c2⟩:=q1 rfl;have U:B.size=cN.size+1:=by have:=aK List.length c2;simpa using this
  refine fin (us++[a.eval x]) (λu G=>by simpa using G) ⟨b,B,l,us++[a.eval x],cv _ _ _,hown,by simp[hlt],xD,c1,by simp[h2],by simp[U,h3],λi ys hi=> ?_,λi hi=> ?_,λi j u v G hv hij g F O=> ?_⟩
  .by_cases hil:i<vs.length
   .rw[dD hil] at hi;obtain⟨u,cs,n1,n2,n3,n4,n5⟩:=h4 i ys hi;exact⟨u,cs,by rw[dD af];exact n1,by rw[c2,dD aF];exact n2,other u cs ys n3 (hub u (aI n1)),n4,n5⟩
   .rw[ga af] at hi;have hi0:i-vs.length=0:=by
     have:=(bF.1 hi).1;simp at this;omega
    rw[hi0] at hi;simp at hi;subst hi;refine⟨_,_,?_,?_,other _ _ _ S X6,hrc,hg⟩
    .rw[ga af,h2,hi0];rfl
    .rw[c2,ga aF];simp[h3,hi0]
  .grind
  .have split:∀q z,(us++[a.eval x])[q]? =some z->(us[q]? =some z)\/(q=us.length/\z=a.eval x):=λq z V=>by
    by_cases hq:q<us.length
    .rw[dD hq] at V;exact .inl V
    .rw[ga af] at V;have h0 :=by
      have:=(bF.1 V).1;simp at this;omega
     rw[h0] at V;simp at V;exact .inr ⟨af,V.symm⟩
   rcases split i u G with YZ|⟨e1,e2⟩<;>rcases split j v hv with hv2|⟨e3,e4⟩
   .exact h6 i j u v YZ hv2 hij g F O
   .rw[e4] at O;exact hnu u (aI YZ) g F O
   .rw[e2] at F;exact hnu v (aI hv2) g O F
   .exact hij (e1.trans e3.symm)
 |some p=>
  simp[Cf,hf] at D;obtain⟨rfl,rfl⟩:=D;obtain⟨c1,c2,QG⟩:=q2 p rfl;have U :=by have:=aK List.length c2;simpa using this
  refine fin (us.set p _) (λu G=>mN G) ⟨b,_,l,_,cv _ _ _,hown,by simp[hlt],xD,c1,by simp[h2],by grind,λi ys hi=> ?_,λi hi=> ?_,λi j u v G hv hij g F O=> ?_⟩
  .grind
  .grind
  grind
def Qe {o:Oper} {t:TypeId} {m k x:Operand} (z:Rel N w0 μ0 L μ loc st a w) (B:o.dst=none) (ho:o.op= .mapUpdate t m k x\/o.op= .insert t m k x) (h:Ux P st t m k x=some st') (hK:mM N w0 μ0 L st' K):o.uB P a w K Q:=by
 unfold Ux at h;split at h
 .rename_i et id key k' e sz ks vs hmk;obtain⟨kt,hu,hm,hk,O,S,G⟩:=Ab hmk;have I :=aY z hm;have H:=fu z hk;split at h
  .split at h
   .split at h
    .split at h
     .rename_i ks' vs' q;injection h with h;subst h;have hx:a.eval (.const (.slice none 0 0))= .slice _ 0 0:=rfl;exact VH z B ho hu I H S O G q (by(constructor<;>grind)) rfl (λg F=>by simp_all[bC]) (λj oj _ g F=>by simp_all[bC]) hK
     grind
    grind
   grind
  .split at h
   .rename_i j hx;split at h
    .rename_i e' s xs l;split at h
     .rename_i D;obtain⟨rfl,rfl,hj⟩:=D;split at h
      .rename_i ks' vs' q;injection h with h;subst h;have hne:id≠j:=λe=>by simp_all
       have U :=(aY z hx).trans (iS (z.obs j _ l));obtain⟨cells,hrow,hrc,V⟩:=z.obs j _ l;have R:(st.dG j).ob id=some (.mr k' e s ks vs):=by simp[St.dG,bu _ _ (cO hne),O,Ob.dG]
       refine VH (z.G8 j) B ho hu I H S R G q (by simp_all) hrc (λg F=> ?_) (λi oi hi g F=> ?_) hK
       .rw[U] at F;obtain⟨m1,m2⟩:=V g (.inl F);rcases m1 with m1|⟨v,hv,_⟩
        .simp_all
        .rw[z.names j hj] at hv;grind
       .rw[U] at F;by_cases e:j=i
        .simp_all[St.dG,cu]
        .simp[St.dG,bu _ _ e,bZ] at hi;obtain⟨oi',hi',_⟩:=hi;exact z.apart j i _ _ l hi' e g (.inl F)
      grind
     grind
    grind
   grind
 grind
def Tw {o:Oper} {t k e z:TypeId} {s:Nat} {r:Option Operand} {d:Nat} (l:Rel N w0 μ0 L μ loc st a w) (H:d<N) (q:o.dst=some d) (ho:o.op= .makeMap t r) (U:P.underlying t=some (.map k e))
  (S:uF P st r=true) (F:mM N w0 μ0 L ((st.new d (.mr k z s [] [])).set (some d) (.row d)) K):o.uB P a w K Q:=by
 have B:=FZ l U S;refine gI (v:= .map (some w.heap.size)) (w':=w.alloc (.map #[] 0)) (by simp_all[execOp]) ?_;rw[q];have D:=(l.QE (qD w (.map #[] 0))).new (o:= .mr k z s [] []) (.inl (eO H l.small))
  ⟨_, #[],0,[],cv _ _ _,l.grown,(by show(w.heap.push _)[w.heap.size]? =_;simp),u9 l _ (aU _),by rfl,rfl,rfl,by simp,by simp,ah⟩ (λj oj O R g I=>by
  rcases oh.1 I with rfl|⟨u,hu,_⟩
  .intro G;have:=((l.obs j _ O).block _ G).2.1;omega
  simp_all)
 exact F _ _ _ _ (D.set (λi V=>by simp_all) (by show _=fH _;rw[cv];rfl))
def XO {o:Oper} {t:TypeId} {x:Operand} {d:Nat} {s:List UInt8} (q:Rel N w0 μ0 L μ loc st a w) (B:d<N) (l:o.dst=some d) (H:o.op= .range t x) (I:P.underlying t=some .string) (G:(bz P t st x).bind iJ =some (.str s))
  (z:mM N w0 μ0 L ((st.new d (.it s 0)).set (some d) (.ptr d 0)) K):o.uB P a w K Q:=by
 have F:=fu q G;rw[rep] at F;refine gI (v:= .pointer (some ⟨w.heap.size,0,none⟩)) (w':=w.alloc (.stringIter ⟨s.toArray⟩ 0)) (by simp_all[execOp,Instr.range,bJ]) ?_;rw[l];refine z _ _ _ _ (q.made B (λg D=>qd.1 D) ?_ ?_)
 .exact⟨_,cv _ _ _, .inl q.grown,(by show(w.heap.push _)[w.heap.size]? =_;simp),u9 q _ (aU _)⟩
 .exact⟨_,cv _ _ _,rfl⟩
def Z0 {o:Oper} {x:Operand} {d id pos:Nat} {s:List UInt8} (I:Rel N w0 μ0 L μ loc st a w) (hd:d<N) (l:o.dst=some d) (ho:o.op= .next x true) (hx:bz P 0 st x=some (.ptr id 0)) (D:st.ob id=some (.it s pos))
  (H:if pos<s.length then mM N w0 μ0 L (St.set { st with ob:=put st.ob id (some (.it s (pos+(Utf8.decode ⟨s.toArray⟩ pos).2))) } (some d) (.pv (.lR [.bool true, .int .i64 pos, .int .i32 (Utf8.decode ⟨s.toArray⟩ pos).1]))) K
   else mM N w0 μ0 L (st.set (some d) (.pv (.lR [.bool false]))) K):o.uB P a w K Q:=by
 obtain⟨b0,z,hv⟩:=aY I hx;obtain⟨b,U,F,S,xD⟩:=I.obs id _ D;rw[U] at z;simp only[zA,aN,zB,fG] at z;subst z;have G:(⟨s.toArray⟩:ByteArray).size=s.length:=by simp[ByteArray.size]
 have V:=(eE.1 S).1;have q:(getObj b).run P w= .ok (.stringIter ⟨s.toArray⟩ pos) w:=by simp[getObj,Sem.run,S]
 by_cases O:pos<s.length
 .rw[az O] at H
  refine gI (v:= .tuple #[.bool true, .int .i64 pos, .int .i32 (Utf8.decode ⟨s.toArray⟩ pos).1]) (w':={ w with heap:=w.heap.setIfInBounds b (.stringIter ⟨s.toArray⟩ (pos+(Utf8.decode ⟨s.toArray⟩ pos).2)) }) (by
   unfold execOp;rw[ho];simp[Instr.next,hv,q,G,O,goInt]
   simp[setObj,Sem.run,S]) ?_
  rw[l];have r1:=I.write D (o':= .it s (pos+(Utf8.decode ⟨s.toArray⟩ pos).2)) (g:=b) (by rw[U];exact qd.2 rfl) (w':={ w with heap:=w.heap.setIfInBounds b (.stringIter ⟨s.toArray⟩ (pos+(Utf8.decode ⟨s.toArray⟩ pos).2)) }) (λb' R=>by simp only[];rw[vt (λe=>R e.symm)]) rfl rfl rfl ah ⟨b,U,F,by simp[V],xD⟩;refine H _ _ _ _ (r1.set (λi B=>by injection B with B;omega) ?_);show rep μ (.lR _) _;rw[rep];exact⟨[.bool true, .int .i64 pos, .int .i32 (Utf8.decode ⟨s.toArray⟩ pos).1],rfl,bN (by simp[rep]) (bN (by simp[rep]) (bN (by simp[rep]) dg))⟩
 .rw[au O] at H
  refine gI (v:= .tuple #[.bool false]) (w':=w) (by
   unfold execOp;rw[ho]
   simp[Instr.next,hv,q,G,O]) ?_
  rw[l];refine H _ _ _ _ (I.set (λi B=>by injection B with B;omega) ?_);show rep μ (.lR _) _;rw[rep];exact⟨[.bool false],rfl,bN (by simp[rep]) dg⟩
end
