/- THE ABSTRACT MACHINE. -/
import Derived.Test.YthppjmoncapdfaaGreatDoorAmStep
set_option linter.all false
open List (replicate)
namespace Go.AM
open Go.RowKit
section
variable {μ μ':Mu} {loc:Nat->Value}
theorem pJ {B b:Nat} {xs:List (List AV)} {vs:List Value} {l:Nat} (h:bS μ B xs vs) (q:μ.le μ') (G:∀j u,vs[j]? =some u->μ' b (l+j)=some u):iI μ' B b xs l:=by induction xs generalizing vs l with
 |nil=>simp[iI]
 |cons x xs I=>
  obtain⟨O,ws,rfl,z,D,F⟩:=h;refine⟨⟨O,(z.mono q).1,z.2,D,λj u H=>G j u ?_⟩,I F λj u H=> ?_⟩
  .grind
  simp_all[fc,jP]
def ko {q:Nat} {xs B:List (List AV)} {l z:List Value} (h:bS μ q xs l) (k:bS μ q B z):bS μ q (xs++B) (l++z):=by induction xs generalizing l with
 |nil=>have:l=[]:=h;simp_all
 |cons x xs H=>obtain⟨a,b,rfl,D,F,G⟩:=h;exact⟨a,_,by simp,D,F,H G⟩
def mE {sz:Nat} {z:List AV} {l:List Value} (h:gV μ z l) (q:l.length=sz):∀n,bS μ sz (replicate n z) (replicate n l).flatten
 |0=>rfl
 |n+1=>⟨l,_,by rfl,h,q,mE h q n⟩
def uy {z:Nat}:∀(n:Nat) {l:List AV} {q:List Value},gV μ l q->l.length=n *z->bS μ z (chunks z n l) q
 |0,l,q,h,B=>by have :=jc (by rw[h.length];omega);assumption
 |n+1,l,q,h,B=>by rw[hU] at B;have D:=h.length;exact⟨_,_,by simp,h.take _,by simp;omega,uy n (h.drop _) aX⟩
def yL {z:List AV} {l:List Value} (h:gV μ z l):∀n,gV μ (oV z n) (replicate n l).flatten
 |0=>⟨cF,ah⟩
 |n+1=>by simpa[oV,zO] using h.append (yL h n)
theorem ux (z:List AV):∀n,(oV z n).length=n *z.length
 |0=>by simp[oV]
 |n+1=>by simp[oV,ux z n,hU];omega
def wz (q:Nat):∀(n:Nat) (l:List AV),(chunks q n l).length=n
 |0,_=>rfl
 |n+1,l=>by simp[chunks,wz _ n]
def gH {id:Nat} {s:SV} {v:Value} (k:eV μ loc s v):eV μ loc (s.bX id) v:=by unfold SV.bX;cases s.mentions _ with
 |true=>trivial
 |false=>exact k
def Fq {id:Nat} {s:SV} {v:Value} {x:AV} (k:eV μ loc s v) (l:rep μ x (dO (loc id))):eV μ loc (s.bY id x) v:=by cases s with
 |row j=>cases h:Nat.beq j id with
  |true=>simp[SV.bY,h];have:=beq_iff.1 h;subst this;have e :=k;rw[e];exact l
  |false=>simp_all[SV.bY]
 |_=>exact gH k
def Tl {id:Nat} {v u:Value} (h:dO v=u):eV μ (nZ loc id v) (.row id) u:=by show u=dO _;rw[bu,h]
def Cj {id:Nat} {v:Value} (h:dO v=v):eV μ (nZ loc id v) (.row id) v:=by show v=dO _;rw[bu,h]
theorem qi (l:Array Value) (s:Nat) (F:l.size=s) (D:0<s) (n:Nat):(madeCells l (n *s)).toList=(replicate n l.toList).flatten:=by
 have key:∀n,(List.range (n *s)).map (λi=>l[i % s]!)=(replicate n l.toList).flatten:=by intro n;induction n with
  |zero=>simp
  |succ n G=>
   rw[uO,qY,List.range_add];have q:(List.range s).map (λi=>l[i % s]!)=l.toList:=by
    apply je;intro i;by_cases B:i<s
    .simp_all[oL]
    .simp_all
   have z:((λi=>l[i % s]!)∘λx=>s+x)=λi=>l[i % s]! :=by funext i;simp
   grind
 simp_all[madeCells]
theorem Gh (q:List Value) {l c:Nat} (h:l<=c):(replicate c q).flatten.take (l *q.length)=(replicate l q).flatten:=by obtain⟨d,rfl⟩:=Nat.exists_eq_add_of_le h;rw[<-List.replicate_append_replicate,List.flatten_append];simp_all[jS]
end
section
variable {P:Program} {N:Nat} {w0:World} {μ0:Mu} {L:nV} {μ:Mu} {loc:Nat->Value} {st st':St} {a:Act} {w:World} {Q:Exit->Act->World->Prop} {K:Act->World->Prop}
theorem vq {e H:Nat} {xs:List (List AV)} {u:Value} {cells:List Value} (l:w.ownsRow 0 e H u xs.length cells) (z:bS μ H xs cells) {μ':Mu} (F:μ.le μ')
  (S:∀b j v,aP u=some b->y5 w b j=some v->μ' b j=some v):rep μ' (.c4 H xs) u:=by
 have q:=jq z;rw[rep];rcases l.2 with⟨B,U⟩|⟨g,O,R,B,_,V,G,D,_⟩
 .grind
 .refine⟨_,_,B,G,D, .inr ⟨g,0,rfl,pJ z F λj u I=> ?_⟩⟩;have:=l.cells (by rw[B];rfl) j u I;rw[add_lit] at this;exact S g _ u (by rw[B];rfl) (oZ this (q u (aS I)))
def uT {z:Type}:∀{q:List (Option z)} {l:List z},lD q=some l->q=l.map some
 |[],l,h=>by simp_all[lD]
 |none::q,l,h=>by simp[lD] at h
 |some x::q,l,h=>by simp[lD,bg] at h;obtain⟨D,B,rfl⟩:=h;simp[uT B]
def Cf {l:List AV}:∀{k:Nat} {q:List Value} {u:Value} {a:AV},bl μ l q->q[k]? =some u->rep μ a u->bl μ (l.set k a) q:=by induction l with
 |nil=>simp_all
 |cons c l H=>intro k q u a h D B;obtain⟨v,F,rfl,G,z⟩:=h;cases k with
  |zero=>simp at D;subst D;exact⟨v,F,rfl,B,z⟩
  |succ k=>exact⟨v,F,rfl,G,H z (by assumption) B⟩
def uz {k F D:Nat} {μ':Mu} (B:μ.le μ') (S:k<F):∀{xs:List (List AV)} {l:List (List (List AV))} {z:List Value},bS μ F xs z->xs.length=l.length->
  (∀(i:Nat) G,l[i]? =some G->∃u,z[i *F+k]? =some u/\rep μ' (.c4 D G) u)->bS μ' F (rX k D xs l) z
 |[],[],z,h,_,_=>h
 |[],_::_,z,_,h,_=>by simp at h
 |_::_,[],z,_,h,_=>by simp at h
 |x::xs,y::l,z,⟨us,ws,e,H,O,R⟩,hl,q=>by subst e;obtain⟨u,I,U⟩:=q 0 y ah;rw[uP,fW,c7 af] at I;refine⟨us,ws,rfl,⟨Cf (dK B _ _ H.1) I U,H.2⟩,O,uz B S R (by simp_all) λi G hi=> ?_⟩;obtain⟨u2,W,V⟩:=q (i+1) _ (by assumption);grind
def wR {k q:Nat}:∀{xs:List (List AV)} {l:List (List (List AV))},xs.length=l.length->(rX k q xs l).length=xs.length
 |[],[],_=>rfl
 |[],_::_,h=>by simp at h
 |_::_,[],h=>by simp at h
 |x::xs,y::l,h=>by simp[rX,wR (xs:=xs) (l:=l) (by simp_all)]
def Gi {n0:Nat} {id:Nat} {o:Ob} {v:AV} (h:jC n0 L μ loc w id o) (z:o.val=some v) {μ':Mu} (q:μ.le μ')
  (V:∀b j v,gE (loc id) b->y5 w b j=some v->μ' b j=some v):rep μ' v (dO (loc id)):=by
 cases o with
 |box t cells=>simp[Ob.val] at z
 |it s n=>simp[Ob.val] at z
 |lp s=>simp[Ob.val] at z
 |row e sz xs=>simp only[Ob.val,aB] at z;subst z;rw[fS h];obtain⟨vs,H,R,_⟩:=h;exact vq H R q (λb j v hb=>V b j v (.inl hb))
 |mp k e ks B=>simp only[Ob.val,aB] at z;subst z;rw[La h];obtain⟨b,D,I,G,_,hh,_,h1,h2,_⟩:=h;rw[rep,G];exact .inr ⟨b,_,_,rfl,dK q _ _ h1,dK q _ _ h2,V b 0 _ (by rw[G];exact qh.2 rfl) (Cr hh)⟩
 |mr k e sz ks vs=>
  simp only[Ob.val,bg] at z;obtain⟨l,O,rfl⟩:=z;obtain⟨b,D,I,us,G,_,hh,_,h1,h2,h3,h4,h5,h6⟩:=h;have S:=uT O;rw[G,rep];refine .inr ⟨b,_,D.toList.map (·.val),rfl,dK q _ _ h1,?_,V b 0 _ (by rw[G];exact kP.2 (.inl rfl)) (Cr hh)⟩;have key:∀(l:List (List (List AV))) (B:List Value),B.length=l.length->(∀(i:Nat) xs,l[i]? =some xs->∃u,B[i]? =some u/\rep μ' (.c4 sz xs) u)->bl μ' (l.map (.c4 sz)) B:=by intro l;induction l with
   |nil=>intro B he _;rw[jc he];exact cF
   |cons x l ih=>intro B he F;cases B with
    |nil=>simp at he
    |cons u B=>
     obtain⟨u',W,hr⟩:=F 0 x ah;simp at W;subst W
     exact bq hr (ih B (by simpa using he) (λi xs hi=>by
      obtain⟨u2,OT,Vl⟩:=F (i+1) xs (by assumption)
      exact⟨u2,by simpa using OT,Vl⟩))
  refine key l _ (by simp[h3,S]) (λi xs hi=> ?_);obtain⟨u,cells,k1,k2,k3,k4,k5⟩:=h4 i xs (by rw[S];simp[hi]);exact⟨u,k2,vq k3 k4 q (λg j v hg=>V g j v (by rw[G];exact kP.2 (.inr ⟨u,aS k1,hg⟩)))⟩
 |rn e sz k e' sz' xs ys=>
  simp[Ob.val,bg] at z;obtain⟨l,O,rfl⟩:=z;obtain⟨m,us,vs,G,_,H,R,hk,h2,h3,h4,h5,h6,h7⟩:=h;have S:=uT O;have U:xs.length=l.length:=by simp_all
  rw[G];show rep _ _ m;refine vq (by rw[wR U];omega) (uz q hk.1 R U λi zs hi=> ?_) (Mu.le.refl _) λb j v hb hs=>V b j v (by simp_all[gO]) hs
  obtain⟨u,cells,k1,k2,k3,k4,k5⟩:=h4 i zs (by simp_all);grind[vq,gO]
open Classical in
noncomputable def nE (w:World) (loc:Nat->Value) (id:Nat) (μ:Mu):Mu:=λb j=>if gE (loc id) b then y5 w b j else μ b j
def Rel.Qr (B:Rel N w0 μ0 L μ loc st a w) {id:Nat} {o:Ob} (H:st.ob id=some o) (hlt:id<10000) (f:SV->SV) (g:Ob->Ob) (hf:∀s v,eV (nE w loc id μ) loc s v->eV (nE w loc id μ) loc (f s) v)
  (hg:∀ob,g ob=match ob with| .box t cells=> .box t (cells.map f)|o=>o):
  μ.le (nE w loc id μ)/\Rel N w0 μ0 L (nE w loc id μ) loc { env:=λi=>(st.env i).map f,ob:=put (λi=>(st.ob i).map g) id none } a w:=by
 have I:=B.obs _ _ H;have hfs:∀(F) (R),fK (nE w loc id μ) loc F R->fK (nE w loc id μ) loc (F.map f) R:=by intro F;induction F with
  |nil=>simp
  |cons c F ih=>rintro R ⟨u,us,e,l,h2⟩;exact⟨u,us,e,hf _ _ l,ih _ h2⟩
 have G:μ.le (nE w loc id _):=λb j v D=>by
  by_cases z:gE (loc id) b
  .have:=(I.block b z).2.2 j;simp_all
  .simpa[nE,z] using D
 have U:∀i O,i≠id->st.ob i=some O->∀b,gE _ b->∀j,nE w loc id _ b j=none:=λi O hne q b z j=>by
  have hn :=λhid=>B.apart _ i _ _ H q (λe=>hne e.symm) b hid z
  simp[nE,az hn];exact(B.obs i _ q).block b z|>.2.2 j
 have l:=(B.drop id).world G (λb j v D=>by
   by_cases z:gE (loc id) b
   .rcases(I.block b z).1 with S|⟨v,S,_⟩
    .omega
    .rw[B.names _ hlt] at S;grind
   simp_all[nE]) (λb j v D=>by
   by_cases z:gE (loc id) b
   .simpa[nE,z] using D
   .exact B.qk b j v (by simpa[nE,z] using D)) (λi O q b z=>by
   grind[br,aM]) (λ_ _ _=>rfl) rfl rfl rfl (aJ _)
 refine⟨G,l.small,l.names,l.fix,l.size,l.defers,?_,l.qk,l.base,?_,?_,l.keep,l.os,l.tape,l.output,l.grown,l.drawn⟩
 .intro i s q;cases he:st.env i with
  |none=>simp_all
  |some s'=>simp[he] at q;subst q;obtain⟨v,D,hr⟩:=l.env i _ he;simp_all
 .intro i O q;by_cases V:id=i
  .simp_all[br]
  .simp[aM _ _ V] at q;cases ho:st.ob i with
   |none=>simp_all
   |some oj=>simp[ho] at q;subst q;have k:=l.obs i oj (by simp_all[aM]);rw[hg];cases oj with
    |box t cells=>obtain⟨b,R,hl,ho',S,hm,hs,h1'⟩:=k;exact⟨b,R,hl,ho',S,hm,hfs _ _ hs,h1'⟩
    |row W sz2 xs2=>exact k
    |mp k2 W ks2 vs2=>exact k
    |mr k2 W s2 ks2 vs2=>exact k
    |it s2 n2=>exact k
    |lp s2=>exact k
    |rn W s2 k2 e3 s3 x2 y2=>exact k
 .intro i j O oj q hj hij;have get:∀k ok,put (λi=>(st.ob i).map g) id none k=some ok->∃ok',st.ob k=some ok':=λk ok hk=>by
   by_cases V:id=k
   .simp_all
   .simp[aM _ _ V] at hk;cases ho:st.ob k with
    |none=>simp_all
    |some x=>simp
  obtain⟨oi',hi'⟩:=get i _ q;obtain⟨WJ,hj'⟩:=get j _ hj;exact B.apart i j _ _ hi' hj' hij
def Qm {id:Nat} (h:sG id=true):id<10000:=by simp_all[sG]
def Rel.bY (I:Rel N w0 μ0 L μ loc st a w) {id:Nat} (h:st.bY id=some st'):∃μ',μ.le μ'/\Rel N w0 μ0 L μ' loc st' a w:=by
 unfold St.bY at h;split at h
 .rename_i v G q;injection h with h;subst h;obtain⟨o,l,D⟩:=bZ.1 q;have z:=I.obs _ _ l;have H:μ.le (nE w loc id _):=λb j v S=>by
   by_cases F:gE (loc id) b
   .have:=(z.block b F).2.2 j;simp_all
   .simpa[nE,F] using S
  have B :=Gi z D H λb j v F O=>by simpa[nE,F] using O
  exact⟨_,I.Qr l (Qm G) _ _ (λs u R=>Fq R B) (λU=>by rfl)⟩
 grind
def Rel.lU (F:Rel N w0 μ0 L μ loc st a w) {id:Nat} (h:st.lU id=some st'):∃μ',μ.le μ'/\Rel N w0 μ0 L μ' loc st' a w:=by
 unfold St.lU at h;split at h
 .rename_i t cells H z;split at h
  .rename_i cs G;injection h with h;subst h;obtain⟨b,vs,U,ho,hh,hm,l,S⟩:=F.obs _ _ z;have I:μ.le (nE w loc id μ):=λR j v hv=>by
    by_cases W:gE (loc id) R
    .have:=((F.obs _ _ z).block _ W).2.2 j;simp_all
    simp_all[AM.nE]
   have hc:gV _ _ _:=⟨dK I _ _ (zS G l),S⟩
   refine⟨_,F.Qr z (Qm H) _ _ (λs u l=> ?_) (λob=>by rfl)⟩;cases s with
   |ptr j O=>simp[SV.lU];cases hj:Nat.beq j _ with
    |false=>exact l
    |true=>
     have:=beq_iff.1 hj;subst this;obtain⟨R,D,rfl⟩:=l;rw[U] at D;obtain⟨rfl,_⟩:=D;refine⟨b,_,_,rfl,hc.drop _,λk u V=> ?_⟩;rw[qV] at V;have e:gE (loc j) b:=by rw[U];exact mq.2 rfl
     simp[AM.nE,ak e];exact oZ (by rw[cell_of_row w b _ _ t _ hh];simp_all) (S u (aS V))
   |undef=>assumption
   |any=>assumption
   |pv x=>assumption
   |row j=>exact gH l
   |rp j sz i O=>exact gH l
   |sub j sz lo hi=>exact gH l
   |cp c=>assumption
   |cl f B=>exact gH l
   |ag B=>exact gH l
   |aq j q=>exact gH l
   |two s b=>exact gH l
  grind
 grind
def Df (S:Rel N w0 μ0 L μ loc st a w):∀{xs:List Operand} {st st':St} {μ:Mu},Rel N w0 μ0 L μ loc st a w->rG st xs=some st'->∃μ',μ.le μ'/\Rel N w0 μ0 L μ' loc st' a w:=by intro xs;induction xs with
 |nil=>grind[rG,Mu.le.refl]
 |cons x xs B=>intro st st' μ h l;cases x with
  |tmp i=>
   simp[rG] at l;split at l
   .rename_i id H U;cases G:st.lU id with
    |none=>simp_all
    |some I=>rw[G] at l;obtain⟨O,q,D⟩:=h.lU G;obtain⟨R,z,F⟩:=B D l;exact⟨_,q.trans z,F⟩
   grind
  |const v=>exact B h l
  |func f=>exact B h l
  |global g=>exact B h l
def Wd (F:Fence):Prop:=F.plain=Fence.wide
def Wd.fn {F:Fence} (h:Wd F) (f:FuncId):F.fn f:=by
 have:F.plain.fn=Fence.wide.fn:=aC _ h
 have:F.fn=Fence.wide.fn:=this
 rw[this];trivial
def Wd.depth {F:Fence} (h:Wd F):F.depth=none:=by
 have:F.plain.depth=Fence.wide.depth:=aC _ h
 exact this
def Wd.one {F:Fence} (h:Wd F) {p:Prop}:F.depth.isSome=true->p:=λe=>by rw[h.depth] at e;cases e
def Wd.plain {F:Fence} (h:Wd F) (l:F.round=none):F=Fence.wide:=by have:=h;unfold Wd Fence.plain at this;rw[<-l] at this;omega
def Wd.wide:Wd Fence.wide:=rfl
end
end Go.AM
namespace Go
def Oper.qo (P:Program) (o:Oper) (a:Act) (w:World) (K:Act->World->Prop) (Q:Exit->Act->World->Prop):Prop:=∀F,AM.Wd F->o.wpIn F 0 P a w K Q
end Go
namespace Go.AM
open Go.RowKit
section
variable {P:Program} {N:Nat} {w0:World} {μ0:Mu} {L:nV} {μ:Mu} {loc:Nat->Value} {st st':St} {a:Act} {w:World} {Q:Exit->Act->World->Prop} {K:Act->World->Prop}
def CR {o:Oper} {x:Next} {w':World} (l:∀c,o.op≠ .defer c) (z:(execOp a.eval o).run P w= .ok x w') (h:∀F,Wd F->o.uponIn F 0 P a K Q (.ok x w')):o.qo P a w K Q:=λF q=>by unfold Oper.wpIn;rw[Oper.semAt_eq _ _ _ l,z];exact⟨λf _=>q.fn f,h F q⟩
def yX {o:Oper} {w':World} (l:(execOp a.eval o).run P w= .ok .skip w') (q:K (a.put o.dst undef) w'):o.qo P a w K Q:=
 CR (λc B=>by unfold execOp at l;cases D:(resolve a.eval c o.type).run P w with
  |ok d z=>simp_all
  |halt e z=>simp_all) l λ_ _=>q
def eW {o:Oper} {v:Value} {w':World} (l:(execOp a.eval o).run P w= .ok (.value v) w') (q:K (a.put o.dst v) w'):o.qo P a w K Q:=
 CR (λc B=>by unfold execOp at l;cases D:(resolve a.eval c o.type).run P w with
  |ok d z=>simp_all
  |halt e z=>simp_all) l λ_ _=>q
def jX (N:Nat) (w0:World) (μ0:Mu) (L:nV) (st':St) (K:Act->World->Prop):Prop:=∀q z μ' l,Rel N w0 μ0 L μ' l st' q z->K q z
def kT (z:Rel N w0 μ0 L μ loc st a w) {o:Oper} {l:SV} (B:∀i,o.dst=some i->i<N) (D:kD P μ loc o l a w) (q:jX N w0 μ0 L (st.set o.dst l) K):o.qo P a w K Q:=by obtain⟨v,F,G⟩:=D;exact eW F (q _ _ _ _ (z.set B G))
def qJ (l:Rel N w0 μ0 L μ loc st a w):∀b,w.heap.size<=b->∀j,μ b j=none:=λb z j=>by cases q:μ b j with
 |none=>rfl
 |some v=>have:=jx (l.qk b j v q);omega
def mJ (w:World) (o:Obj):Below w.heap.size w (w.alloc o):=(fZ _ _).alloc (aJ _) o
def Rel.made (q:Rel N w0 μ0 L μ loc st a w) {d:Nat} (G:d<N) {x:Obj} {val:Value} {o:Ob} {B:SV} (l:∀g,gE val g->g=w.heap.size)
  (z:jC w0.heap.size L μ (nZ loc d val) (w.alloc x) d o) (R:eV μ (nZ loc d val) B val):
  Rel N w0 μ0 L μ (nZ loc d val) ((st.new d o).set (some d) B) (a.put (some d) val) (w.alloc x):=by
 have D:=(q.HB (mJ w x)).new (.inl (dH G q.small)) z (λj U I O g H=>by
  have:=l g H;intro F;have:=((q.obs j _ I).block _ F).2.1
  omega)
 exact D.set (λi S=>by simp_all) R
def Rel.made' (q:Rel N w0 μ0 L μ loc st a w) {d:Nat} (G:d<N) {x:Obj} {val u:Value} {o:Ob} {B:SV} (l:∀g,gE val g->g=w.heap.size)
  (z:jC w0.heap.size L μ (nZ loc d val) (w.alloc x) d o) (R:eV μ (nZ loc d val) B u):
  Rel N w0 μ0 L μ (nZ loc d val) ((st.new d o).set (some d) B) (a.put (some d) u) (w.alloc x):=by
 have D:=(q.HB (mJ w x)).new (.inl (dH G q.small)) z (λj U I O g H=>by
  have:=l g H;intro F;have:=((q.obs j _ I).block _ F).2.1
  omega)
 exact D.set (λi S=>by simp_all) R
def yd {o:Oper} {t:TypeId} {d:Nat} {v:Value} {cells:List SV} (q:Rel N w0 μ0 L μ loc st a w) (D:d<N) (l:o.dst=some d)
  (F:(execOp a.eval o).run P w= .ok (.value (.pointer (some ⟨w.heap.size,0,none⟩))) (w.alloc (.cells v.cells t)))
  (G:fK μ (nZ loc d (.pointer (some ⟨w.heap.size,0,none⟩))) cells v.cells.toList) (z:∀u∈v.cells.toList,u.oneCell'=true)
  (B:jX N w0 μ0 L ((st.new d (.box t cells)).set (some d) (.ptr d 0)) K):o.qo P a w K Q:=by
 refine eW F ?_;rw[l];refine B _ _ _ _ (q.made D (by simp[gE,aP]) ?_ ?_)
 .refine⟨_,_,bu _ _ _, .inl q.grown,?_,qJ q _ (aJ _),G,z⟩;exact oM w _
 .exact⟨_,bu _ _ _,rfl⟩
def KB (U:Rel N w0 μ0 L μ loc st a w) {s:SV} {v:Value} (h:nC st s=true) (k:eV μ loc s v):v.oneCell'=true/\v.cells= #[v]:=by cases s with
 |undef=>simp[nC] at h
 |any=>simp[nC] at h
 |pv x=>cases x with
  |agg R=>simp[nC] at h
  |jy R=>simp[nC] at h
  |self n=>simp[eV,rep] at k
  |yB=>subst k;exact⟨rfl,rfl⟩
  |nw=>subst k;exact⟨rfl,rfl⟩
  |hole=>assumption
  |bool b=>subst k;exact⟨rfl,rfl⟩
  |int q n=>subst k;exact⟨rfl,rfl⟩
  |str q=>subst k;exact⟨rfl,rfl⟩
  |c4 H xs=>obtain⟨A,c,rfl,_⟩:=k;exact⟨rfl,rfl⟩
  |fn f B=>obtain⟨F,rfl,_⟩:=k;exact⟨rfl,rfl⟩
  |ref R=>obtain⟨b,D,F,rfl,_⟩:=k;exact⟨rfl,rfl⟩
  |mp ks es=>rcases k with⟨rfl,_⟩|⟨b,kv,ev,rfl,_⟩<;>exact⟨rfl,rfl⟩
 |ptr id D=>obtain⟨b,_,rfl⟩:=k;exact⟨rfl,rfl⟩
 |row id=>
  simp[nC] at h;split at h
  .rename_i e H xs l;obtain⟨F,z,_⟩:=U.obs _ _ l;have e :=k;rcases z.2 with⟨G,_⟩|⟨g,I,S,G,_⟩<;>(rw[e,G];exact⟨rfl,rfl⟩)
  .rename_i k' e' ks F l;obtain⟨b,W,O,V,_⟩:=U.obs _ _ l;have e :=k;rw[e,V];exact⟨rfl,rfl⟩
  .rename_i e' H q e2 s2 xs ys l;obtain⟨m,us,F,V,_,z,_⟩:=U.obs _ _ l;have e:v=m:=(k).trans (by rw[V];rfl);rcases z.2 with⟨G,_⟩|⟨g,I,S,G,_⟩<;>(rw[e,G];exact⟨rfl,rfl⟩)
  grind
 |rp id H i D=>obtain⟨g,n,c,_,rfl⟩:=k;exact⟨rfl,rfl⟩
 |sub id H lo hi=>simp[nC] at h
 |two s b=>simp[nC] at h
 |cp R=>obtain⟨b,D,F,rfl,_⟩:=k;exact⟨rfl,rfl⟩
 |cl f B=>obtain⟨F,rfl,_⟩:=k;unfold SL;cases Nat.blt f _ with
  |true=>exact⟨rfl,rfl⟩
  |false=>cases Nat.blt f _ with
   |true=>exact⟨rfl,rfl⟩
   |false=>split<;>exact⟨rfl,rfl⟩
 |ag B=>simp[nC] at h
 |aq j q=>simp[nC] at h
def oh {loc:Nat->Value}:∀{caps:List l8} {l:List Value},gW μ loc caps l->fK μ loc (caps.map BB) l
 |[],l,h=>h
 |c::D,l,⟨u,B,e,q,z⟩=>by refine⟨u,B,e,?_,oh z⟩;cases c with
  |v a=>exact q
  |p id=>exact q
  |r id=>exact q
def EU (hR:Rel N w0 μ0 L μ loc st a w) {t:TypeId} {len:Nat} {l:Array (Nat×Operand)} {e:TypeId} {s:Nat} {xs:List (List AV)} (h:iB P t len l.toList st=some (e,s,xs)):
  ∃vs:List Value,(Instr.buildSlice t len (l.map λp=>(p.1,a.eval p.2))).run P w= .ok (.slice (some ⟨w.heap.size,0,none⟩) len len) (w.alloc (.cells vs.toArray e))/\bS μ s xs vs/\xs.length=len/\len<=maxLen/\0<s:=by
 unfold iB at h;split at h
 .rename_i e' B hs;obtain⟨hu,inf,q,O⟩:=eH hs;split at h
  .rename_i z G hz hps;split at h
   .rename_i hc;obtain⟨I,D,hzl,hnt⟩:=hc;cases hf:sg (λi=>some (i *B,B)) (oV z len) G with
    |none=>simp_all
    |some S=>
     simp[hf] at h;obtain⟨rfl,rfl,rfl⟩:=h;obtain⟨i,v,U,hv,H⟩:=mj (μ:=μ) hz;rw[q] at U;injection U with U;subst U;obtain⟨h1,h2⟩:=rW hR hps;have hzc :=by have:=H.length;simpa[hzl] using this
     obtain⟨ws,R,hr⟩:=wZ (us:=l.toList.map λp=>(p.1,a.eval p.2)) hf (yL H _) (by simp_all) (by simp_all[jQ]) (λp hp x e=>by
      have:=cH.1 hnt p hp
      rw[e] at this;cases this)
     have W:S.length=len *B:=by
      have key:∀(G) (cells S),sg (λi=>some (i *B,B)) cells G=some S->S.length=cells.length:=by intro G;induction G with
       |nil=>simp_all[sg]
       |cons p G ih=>grind[sg]
      grind[ux]
     refine⟨ws,?_,uy _ hr W,wz _ _ _,by simp[maxLen];have:len *1<=len *B:=zP _ D;omega,D⟩;have F:(replicate len v.cells.toList).flatten.toArray=madeCells v.cells (len *B):=by grind[qi]
     rw[F] at R;by_cases V:len *B=0
     .have e0:madeCells v.cells (len *B)= #[]:=by rw[V];simp[madeCells]
      rw[e0] at R;simp[Instr.buildSlice,aU hu,sizeOf,typeInfo,q,O,V,R,newRow,Array.range_zero']
     .simp[madeCells] at R;simp[Instr.buildSlice,aU hu,sizeOf,typeInfo,q,O,V,zeroValue,hv,R,newRow,I]
   grind
  grind
 grind
def Ev {o:Oper} {t:TypeId} {len:Nat} {l:Array (Nat×Operand)} {d e s:Nat} {xs:List (List AV)} (D:Rel N w0 μ0 L μ loc st a w) (R:d<N) (B:o.dst=some d) (S:o.op= .buildSlice t len l)
  (h:iB P t len l.toList st=some (e,s,xs)) (O:jX N w0 μ0 L ((st.new d (.row e s xs)).set (some d) (.row d)) K):o.qo P a w K Q:=by
 obtain⟨I,U,q,z,G,H⟩:=EU D h;refine eW (v:= .slice (some ⟨w.heap.size,0,none⟩) len len) (w':=w.alloc (.cells I.toArray e)) (by simp_all[execOp]) ?_;rw[B];refine O _ _ _ _ (D.made R (by simp[gE,aP]) ?_ (Cj rfl));refine⟨I,⟨by rw[bV q], .inr ⟨_,_,_,?_,cB _,oM w _,by omega,G,?_,?_⟩⟩,q,λg F=> ?_⟩
 .rw[bu,z]
 .grind[bV]
 .rw[z,<-z,<-bV q];simp
 .rw[bu] at F;simp[gE,aP] at F;subst F;exact⟨.inl D.grown,qJ D _ (aJ _)⟩
def tS {k:Nat} {c:List AV} (h:mu k c=true):c[k]? =some .nw:=by grind[mu]
def qR {q k:Nat}:∀{xs:List (List AV)} {z:List Value},bS μ q xs z->xs.all (mu k)=true->k<q->bS μ q (xs.map λc=>c.set k .hole) z/\∀i,i<xs.length->z[i *q+k]? =some (.slice none 0 0)
 |[],z,h,_,_=>⟨h,λi D=>by simp at D⟩
 |x::xs,z,⟨F,ws,e,B,G,H⟩,l,I=>by subst e;simp only[ic,aF] at l;have S:=tS l.1;obtain⟨U,V⟩:=qR H l.2 I;obtain⟨v,R,O⟩:=ow B.1 S;subst O;refine⟨⟨F,ws,rfl,⟨Cf B.1 R (by simp[rep,Value.oneCell',Value.cells]),B.2⟩,G,U⟩,λi D=> ?_⟩;cases i with
  |zero=>grind
  |succ i=>rw[fc (by grind),show(i+1) *q+k-F.length=i *q+k by grind];simp_all
def C1 {o:Oper} {t:TypeId} {len:Nat} {l:Array (Nat×Operand)} {d e s k e' s':Nat} {xs:List (List AV)} (R:Rel N w0 μ0 L μ loc st a w) (hd:d<N) (G:o.dst=some d) (ho:o.op= .buildSlice t len l)
  (h:iB P t len l.toList st=some (e,s,xs)) (hk:k<s) (B:xs.all (mu k)=true) (hK:jX N w0 μ0 L ((st.new d (.rn e s k e' s' (xs.map λc=>c.set k .hole) (xs.map λ_=>some []))).set (some d) (.row d)) K):o.qo P a w K Q:=by
 obtain⟨vs,hr,D,O,W,hpos⟩:=EU R h;obtain⟨I,H⟩:=qR D B hk;refine eW (v:= .slice (some ⟨w.heap.size,0,none⟩) len len) (w':=w.alloc (.cells vs.toArray e)) (by simp_all[execOp]) ?_;rw[G];have hown:(w.alloc (.cells vs.toArray e)).ownsRow 0 e s _ _ _:=
  ⟨by rw[bV D,O], .inr ⟨_,_,_,rfl,cB _,oM w _,by omega,W,by grind[bV],by rw[<-O,<-bV D];simp⟩⟩
 refine hK _ _ _ _ (R.made' (val:= .tuple (.slice _ _ _::xs.map λ_=> .slice none 0 0).toArray) hd (λg z=> ?_) ?_ (Tl rfl))
 .rcases gO.1 z with z|⟨u,F,z⟩
  .simp_all[aP]
  .obtain⟨c,_,rfl⟩:=aA.1 F;simp[aP] at z
 .refine⟨_,_,vs,bu _ _ _,λq hq=> ?_,by simp_all,I,⟨hk,λc S=> ?_⟩,by simp,by simp,λi zs V=> ?_,λi V=> ?_,λu F g z=> ?_,λi j u v F hv hij g z=> ?_⟩
  .simp[aP] at hq;subst hq;exact⟨.inl R.grown,qJ R _ (aJ _)⟩
  .obtain⟨c',U,rfl⟩:=aA.1 S;have:=tS (cH.1 B _ U);grind
  .simp only[dz,bg] at V;obtain⟨c,S,e1⟩:=V;simp at e1;subst e1;exact⟨_,[],by simp[S],H i (bp.1 S).1,⟨ah, .inl ⟨rfl,rfl⟩⟩,rfl,λg z=>by simp[aP] at z⟩
  .simp_all
  .obtain⟨c,_,rfl⟩:=aA.1 F;simp[aP] at z
  .simp at F;obtain⟨c,_,rfl⟩:=F;simp[aP] at z
theorem JO {o:Oper} {t:TypeId} {len:Nat} {l:Array (Nat×Operand)} {e s:Nat} {xs:List (List AV)} (z:Rel N w0 μ0 L μ loc st a w) (U:∀i,o.dst=some i->i<N) (ho:o.op= .buildSlice t len l)
  (h:iB P t len l.toList st=some (e,s,xs)) (S:jX N w0 μ0 L (st.set o.dst (.pv (.c4 s xs))) K):o.qo P a w K Q:=by
 obtain⟨H,hr,G,W,V,O⟩:=EU z h;refine eW (v:= .slice (some ⟨w.heap.size,0,none⟩) len len) (w':=w.alloc (.cells H.toArray e)) (by simp_all[execOp]) ?_;let μ' :=λb j=>if b=w.heap.size then H[j]? else μ b j
 have F:=qJ z;have D:μ.le μ':=λb j v B=>by grind
 have R:=z.grow (w':=w.alloc (.cells H.toArray e)) ⟨D,λb j v B=>by
   grind⟩ (λb j v B=>by
   by_cases I:b=w.heap.size
   .subst I;have q :=by simpa[μ'] using B
    exact oZ (by simp[q]) (jq G v (aS q))
   .have q :=by simpa[μ',I] using B
    exact z.Ij (mJ w _) b j v q) (mJ w _)
 refine S _ _ _ _ (R.set U ?_);show rep _ _ _;rw[rep];grind[pJ]
def On {o:Oper} {t:TypeId} {l c:Operand} {d e s:Nat} {kl kc:IntKind} {G D:Int} {z:List AV} {i:TypeInfo} (H:Rel N w0 μ0 L μ loc st a w) (hd:d<N) (R:o.dst=some d) (ho:o.op= .makeSlice t l c)
  (hs:isSlice P t=some (e,s)) (hl:(aN P 0 st l).bind fP =some (.int kl G)) (hc:(aN P 0 st c).bind fP =some (.int kc D)) (hz:zeroCells P e=some z) (V:P.info? e=some i)
  (F:0<s/\z.length=s/\0<=G/\G<=D/\i.bytes *D.toNat<=281474976710656/\D<=9223372036854775807)
  (hK:jX N w0 μ0 L ((st.new d (.row e s (replicate G.toNat z))).set (some d) (.row d)) K):o.qo P a w K Q:=by
 obtain⟨hpos,hzl,h0,hlc,hby,W⟩:=F;obtain⟨hu,U,q,hsz⟩:=eH hs;rw[q] at V;injection V with V;subst V;obtain⟨i',v,B,hv,O⟩:=mj (μ:=μ) hz;rw[q] at B;injection B with B;subst B;have hzc :=by have:=O.length;simpa[hzl] using this
 have hlv:=dD H hl;have Wa:=dD H hc;rw[rep] at hlv Wa;have I :=by have e1:((U.bytes *D.toNat:Nat):Int)<=281474976710656:=af;rw[Int.natCast_mul,Int.toNat_of_nonneg af] at e1;exact e1
 have hr:=run_make w t e _ v hu q hv kl kc _ _ h0 hlc I W;refine eW (v:= .slice (some ⟨w.heap.size,0,none⟩) G.toNat D.toNat) (w':=w.alloc (.cells (madeCells v.cells (D.toNat *U.size)) e)) (by simp_all[execOp]) ?_;rw[R];refine hK _ _ _ _ (H.made hd (by simp[gE,aP]) ?_ (Cj rfl));have S:=mE O af G.toNat;refine⟨_,⟨bV S, .inr ⟨_,D.toNat,_,?_,cB _,oM w _,?_,?_,?_,?_⟩⟩,S,λg hg=> ?_⟩
 .rw[bu];simp
 .simp;omega
 .simp[maxLen];omega
 .rw[size_madeCells,hsz]
 .grind[qi,Gh,Array.length_toList]
 .rw[bu] at hg;simp[gE,aP] at hg;subst hg;exact⟨.inl H.grown,qJ H _ (aJ _)⟩
def Ry {o:Oper} {d e s:Nat} (q:Rel N w0 μ0 L μ loc st a w) (D:d<N) (l:o.dst=some d) (G:o.op= .assign (.const (.slice none 0 0)))
  (B:jX N w0 μ0 L ((st.new d (.row e s [])).set (some d) (.row d)) K):o.qo P a w K Q:=by
 refine eW (v:= .slice _ 0 0) (by unfold execOp;rw[G];rfl) ?_;rw[l];refine B _ _ _ _ ((q.new (.inl (dH D q.small)) ?_ (λj O I F g z=>by simp[gE,aP] at z)).set (λi H=>by simp_all) (Cj rfl));refine⟨[],⟨ah, .inl ⟨bu _ _ _,rfl⟩⟩,rfl,λg z=> ?_⟩;simp_all[bu,gE,aP]
def Cl {t e ty:TypeId} {l:TypeInfo} {v:Value} (F:P.underlying t=some (.slice e)) (z:P.info? e=some l) (G:l.zero=some v) {q:Addr} {n c:Nat} (D:0<n) {w':World} (B:(storeCells q (Builtin.zeroCells v.cells n).toList).run P w= .ok () w'):
  (Builtin.clear_ #[t] ty #[.slice (some q) n c]).run P w= .ok (.tuple #[]) w':=by
 obtain⟨k,rfl⟩:∃k,n=k+1:=⟨n-1,af⟩
 simp_all[Builtin.clear_,aU,zeroValue,typeInfo]
theorem Mw {o:Oper} {c:Call} {t e e':TypeId} {s id sz V l q:Nat} {x:Operand} {xs:List (List AV)} {z:List AV} (hR:Rel N w0 μ0 L μ loc st a w) (H:o.dst=none) (ho:o.op= .call c) (hc:c.callee= .builtin .clear) (ha:c.args.toList=[x]) (ht:c.argTypes.toList=[t])
  (hs:isSlice P t=some (e,s)) (hx:aN P t st x=some (.sub id sz l q)) (R:st.ob id=some (.row e' V xs)) (hz:zeroCells P e=some z) (O:s=sz/\sz=V/\z.length=sz/\q<=xs.length/\e=e'/\0<sz)
  (hK:jX N w0 μ0 L { st with ob:=put st.ob id (some (.row e' V (xs.take l++replicate (q-l) z++xs.drop q))) } K):o.qo P a w K Q:=by
 obtain⟨rfl,rfl,hzl,hhi,rfl,hpos⟩:=O;obtain⟨callee,⟨args⟩,⟨W⟩⟩:=c;simp only at hc ha ht;subst hc;subst ha;subst ht;obtain⟨hu,inf,I,hsz⟩:=eH hs;obtain⟨A,n,cp,A',c',Db,hlo,hhn,V7,RL,_,hg⟩:=aG hR hx;obtain⟨vs,hown,S,hm⟩:=hR.obs id _ R;by_cases hlt:l<q
 .obtain⟨g,rfl,rfl⟩:=hg hlt;obtain⟨D,B,hloc',F,hnc,hcm,hcs,S8⟩:∃D B,loc id= .slice (some ⟨g,0,none⟩) xs.length D/\w.heap[g]? =some (.cells B e (0,0))/\xs.length<=D/\D<=maxLen/\B.size=D *s/\B.toList.take (xs.length *s)=vs:=by
   rcases hown.2 with⟨_,e2⟩|⟨g',D,B,e1,_,h2,h3,h4,h5,h6⟩
   .omega
   simp_all
  obtain⟨i',v,G,hv,hcz⟩:=mj (μ:=μ) hz;rw[I] at G;injection G with G;subst G;have hzc:v.cells.size=s:=by have:=hcz.length;simpa[hzl] using this
  have hzs:(Builtin.zeroCells v.cells (q-l)).toList=(replicate (q-l) v.cells.toList).flatten:=by rw[<-qi v.cells s hzc hpos (q-l)];simp[Builtin.zeroCells,madeCells,hzc]
  have U:=mE (sz:=s) hcz af (q-l);have DF:((replicate (q-l) v.cells.toList).flatten).length=(q-l) *s:=by have:=bV U;simpa using this
  have hvl:=bV S;have EJ:xs.length *s<=B.size:=by rw[hcs];exact jd _ hnc
  have hmul:l *s+(q-l) *s=q *s:=by rw[<-hU];congr 1;omega
  have hhis:q *s<=xs.length *s:=jd _ hhi;have hsc:=qZ P g (l *s) e (replicate (q-l) v.cells.toList).flatten 0 B w F af (jq U);simp only[oK,DF] at hsc;have OQ:=ko (ko (oH S l) U) (wK S q);have hxl':(xs.take l++replicate (q-l) z++xs.drop q).length=xs.length:=by simp;omega
  have hrun:=Cl (P:=P) (ty:=o.type) (c:=c') (n:=q-l) hu I hv af (by rw[hzs];omega);refine eW (v:= .tuple #[]) (w':=w.setRow g (B.toList.take (l *s)++(replicate (q-l) v.cells.toList).flatten++B.toList.drop (l *s+(q-l) *s)).toArray) (by simp_all[execOp,resolve,invoke,builtin,ek,jf,e9,List.map_toArray,aK,cW]) ?_;rw[H];refine hK _ _ _ _ (hR.write R (g:=g) (by rw[Db];exact fz.2 rfl) (λk hk=>q7 w g k _ hk) rfl rfl rfl ah ?_);refine⟨_,⟨?_, .inr ⟨g,D,_,?_,cB _,uQ w g B _ e _ F,?_,hcm,?_,?_⟩⟩,OQ,λg' hg'=>hm g' hg'⟩
  .grind
  .simp_all
  .omega
  .grind
  grind[Nat.mul_le_mul_right,Nat.min_eq_left,List.drop_take,replicate,List.length_append,List.length_take,List.take,List.drop,List.take_append,List.take_of_length_le]
 .have h0:q-l=0:=af;have e0:xs.take l++replicate (q-l) z++xs.drop q=xs:=by
   rw[show l=q from by omega];simp
  rw[e0] at hK
  refine eW (v:= .tuple #[]) (w':=w) (by
   unfold execOp;rw[ho];simp[resolve,invoke,builtin,RL,h0,Builtin.clear_,aU hu]
   cases A'<;>simp) ?_
  rw[H];refine hK _ _ μ loc ?_
  have:put st.ob id (some (.row e s xs))=st.ob:=by
   funext i;by_cases e:id=i
   .subst e;rw[br,R]
   .rw[aM _ _ e]
  rw[this];exact hR
def BD {o:Oper} {t:TypeId} {x y:Operand} {sa sv:SV} (hR:Rel N w0 μ0 L μ loc st a w) (uC:o.dst=none) (ho:o.op= .store t x y)
  (S:eV μ loc sa (a.eval x)) (W:eV μ loc sv (a.eval y)) (h:storeAt P t st sa sv=some st') (hK:jX N w0 μ0 L st' K):o.qo P a w K Q:=by
 have fin:∀(ad:Addr) (w':World),a.eval x= .pointer (some ad)->(storeVar t ad (a.eval y)).run P w= .ok () w'->Rel N w0 μ0 L μ loc st' a w'->o.qo P a w K Q:=λad w' e hr V0=>by refine yX (w':=w') ?_ (by rw[uC];exact hK _ _ _ _ V0);simp_all[execOp,Instr.storeAt,Instr.sureAddr,ek,jf,e9]
 unfold storeAt at h;split at h
 .rename_i id l;obtain⟨b,hl,S⟩:=S;split at h
  .rename_i bt cells n R hsz;obtain⟨b',I,hl',hnF,B,uq,hss,h1⟩:=hR.obs id _ R;rw[hl] at hl';simp only[uJ,aB,uK,dL] at hl';subst hl';have hlen:=lN hss;have U:∀(D:List Value) (sus:List SV),(a.eval y).cells.toList=D->D.length=n->l+n<=I.length->(∀u∈D,u.oneCell'=true)->fK μ loc sus D->
     st'={ st with ob:=put st.ob id (some (.box bt (cells.take l++sus++cells.drop (l+n)))) }->o.qo P a w K Q:=by
    intro D sus wD DF hle G hsus hst;have hsc:=qZ P b l bt D 0 I.toArray w B aX G;simp only[oK] at hsc
    refine fin ⟨b,l,none⟩ _ S (by
     have:(a.eval y).cells.size=n:=by rw[<-DF,<-wD];simp
     simp only[storeVar,ek,iq hsz,e9,this,ne_eq,uR,jg,jf,wD]
     omega) ?_
    rw[hst];refine hR.write R (g:=b) (by rw[hl];exact mq.2 rfl) (λk hk=>q7 w b k _ hk) rfl rfl rfl ah ?_;refine⟨b,I.take l++D++I.drop (l+n),hl,hnF,?_,uq,?_,?_⟩
    .grind[setRow_heap]
    .grind[lM,xB,xA]
    .grind
   split at h
   .rename_i cs;split at h
    .rename_i q;injection h with h;obtain⟨D,e,V,G⟩:=W;have hs:=oh V;exact U D (cs.map BB) (by rw[e];rfl) (by grind[lN,List.length_map]) af G hs h.symm
    grind
   .rename_i cs;split at h
    .rename_i q;injection h with h;have HE:=W;simp only[eV,rep] at HE;obtain⟨D,e,V,G⟩:=HE;exact U D (cs.map .pv) (by rw[e];rfl) (by grind[kB]) af G (nJ V) h.symm
    grind
   .split at h
    .rename_i q;injection h with h;obtain⟨ho1,hc1⟩:=KB hR q.2.2 W;refine U [a.eval y] [sv] (by rw[hc1]) (by simp_all) af (by simp_all) ⟨_,[],rfl,W,rfl⟩ ?_;simp_all[zR,ak]
    grind
  grind
 .rename_i id H i l;obtain⟨g,n',cp,hl,S⟩:=S;split at h
  .rename_i e sz' xs n v R hsz;split at h
   .rename_i c hg;split at h
    .rename_i q;obtain⟨rfl,hvl,hle,hnt⟩:=q;injection h with h;rw[fS (hR.obs id _ R)] at hl;obtain⟨I,hown,hrc,hm⟩:=hR.obs id _ R;have hil:i<xs.length:=(bp.1 hg).1;obtain⟨O,F,Db,B,hnc,hcm,hcs,S8⟩:∃O F,loc id= .slice (some ⟨g,0,none⟩) xs.length O/\w.heap[g]? =some (.cells F e (0,0))/\xs.length<=O/\O<=maxLen/\F.size=O *H/\F.toList.take (xs.length *H)=I:=by
      rcases hown.2 with⟨_,e2⟩|⟨g',O,F,e1,_,h2,h3,h4,h5,h6⟩
      .omega
      simp_all
     have hyc:gV μ v.cells (a.eval y).cells.toList:=DY (show rep μ v (a.eval y) from W) (λz e=>by rw[e] at hnt;cases hnt);have DF:(a.eval y).cells.toList.length=n:=by rw[hyc.length];exact hvl
     have key:∀(xs:List (List AV)) (I:List Value) (i:Nat) (c:List AV),bS μ H xs I->xs[i]? =some c->l+n<=c.length->
       bS μ H (xs.set i (c.take l++v.cells++c.drop (l+n))) (I.take (i *H+l)++(a.eval y).cells.toList++I.drop (i *H+l+n))/\i *H+l+n<=I.length:=by
      intro xs;induction xs with
      |nil=>simp
      |cons x xs ih=>intro I i c hrc hx hle;obtain⟨D,ws,rfl,k1,k2,k3⟩:=hrc;cases i with
       |zero=>
        simp at hx;subst hx;have hxl:=k1.length;refine⟨?_,aX⟩;refine⟨D.take l++(a.eval y).cells.toList++D.drop (l+n),ws,?_,((k1.take l).append hyc).append (k1.drop (l+n)),?_,k3⟩
        .grind
        grind
       |succ i=>
        simp at hx;obtain⟨r1,r2⟩:=ih ws i c k3 hx hle;refine⟨?_,by grind⟩;refine⟨D,ws.take (i *H+l)++(a.eval y).cells.toList++ws.drop (i *H+l+n),?_,k1,k2,r1⟩
        rw[show(i+1) *H+l=D.length+(i *H+l) from by grind,List.take_length_add_append,
         show D.length+(i *H+l)+n=D.length+(i *H+l+n) from by omega,zJ]
        simp
     obtain⟨OQ,hle'⟩:=key xs I i c hrc hg hle;have hvl':=bV hrc;have EJ:xs.length *H<=F.size:=by rw[hcs];exact jd _ hnc
     have hsc:=qZ P g (i *H+l) e _ 0 _ w B af hyc.2;simp only[DF] at hsc
     refine fin _ _ S (by
      have :=by simpa using DF
      simp[storeVar,ek,iq hsz,e9,this,ne_eq,uR,jg]
      omega) ?_
     rw[<-h];refine hR.write R (by rw[hl];exact fz.2 rfl) (λk hk=>q7 w g k _ hk) rfl rfl rfl ah ?_;refine⟨_,⟨?_, .inr ⟨g,_,_,?_,cB _,uQ w g _ _ e _ B,?_,hcm,?_,?_⟩⟩,OQ,λg' hg'=>hm _ hg'⟩
     .grind
     .simp_all
     .simp_all
     .grind
     .rw[show I.take _=F.toList.take (i *H+l) from by grind,
       show I.drop _=(F.toList.drop _).take _ from by rw[<-S8,zK]]
      rw[List.take_append,jS (by grind)];congr 2;grind
    grind
   grind
  grind
 grind
def MB {o:Oper} {t:TypeId} {x y:Operand} {z B:SV} (q:Rel N w0 μ0 L μ loc st a w) (l:o.dst=none) (F:o.op= .store t x y)
  (G:aN P 0 st x=some z) (H:aN P t st y=some B) (h:storeAt P t st z B=some st') (D:jX N w0 μ0 L st' K):o.qo P a w K Q:=
 BD q l F (aG q G) (aG q H) h D
def G0 {o:Oper} {t:TypeId} {x y:Operand} {id H j I n:Nat} (B:Rel N w0 μ0 L μ loc st a w) (F:o.dst=none) (ho:o.op= .store t x y) (hx:aN P 0 st x=some (.ptr id H)) (hy:aN P t st y=some (.sub j I 0 n))
  (h:Lj P st t id H j I n=some st') (hK:jX N w0 μ0 L st' K):o.qo P a w K Q:=by
 unfold Lj at h;split at h
 .rename_i e sz' xs G;cases U:(Nat.beq I sz'&&fN j&& !(Nat.beq id j)) with
  |false=>simp_all
  |true=>
  rw[U] at h;simp at h;simp only[aF] at U;obtain⟨⟨b1,b2⟩,b3⟩:=U;have c1:=beq_iff.1 b1;subst c1;have hne:id≠j:=λe=>by simp_all
  have Wv:=aG B hx;obtain⟨A,m,c,A',c',hl,_,hnm,_,hu,h0,_⟩:=aG B hy;obtain⟨rfl,rfl⟩:=h0 rfl;have V:j<10000\/20000<=j:=by simp[fN,ew] at b2;rcases b2 with hm|hm<;>simp_all
  obtain⟨us,l,hrc,hm⟩:=B.obs j _ G;have hml:m=xs.length:=by rcases l.2 with⟨S,e2⟩|⟨q,O,R,S,_⟩<;>simp_all
  have D:∀q,gE (.slice A' n c') q↔gE (loc j) q:=λq=>by rw[hl,fz,fz];cases A'<;>rfl
  have h2:=B.new (o:= .row e I (xs.take n)) V ?_ (λk ok hk W q hq=>B.apart j k _ _ G hk (bI W) q ((D q).1 hq))
  .refine BD h2 F ho ?_ ?_ h hK
   .obtain⟨b,k1,k2⟩:=Wv;exact⟨b,by simp_all[bB],k2⟩
   .show a.eval y=dO _;rw[bu,hu];rfl
  .have z:=oH hrc n;refine⟨_,⟨by rw[bV z],?_⟩,z,λq hq=> ?_⟩
   .rw[bu];rcases l.2 with⟨S,e2⟩|⟨q,O,R,S,k1,k2,k3,k4,k5,k6⟩
    .simp_all
    grind[Nat.mul_le_mul_right]
   simp_all[bu]
 grind
def uA (t ty e:TypeId) (i:TypeInfo) (B:P.underlying t=some (.slice e)) (z:P.info? e=some i) (v:Value) (n:Nat) (xs:List Value) (size:Nat) (l:w.ownsRow 0 e size v n xs) (c:Nat):
  (Builtin.append_ #[t,t] ty #[v, .slice none 0 c]).run P w= .ok v w:=by
 rcases l.2 with⟨rfl,rfl⟩|⟨g,D,F,rfl,_,_,q,_⟩
 .simp[Builtin.append_,aU B,sizeOf,typeInfo,z,Builtin.lenOf,Builtin.firstCells]
 .simp[Builtin.append_,aU B,sizeOf,typeInfo,z,Builtin.lenOf,Builtin.firstCells,q,storeCells]
def JF {o:Oper} {x y:Operand} {t e:TypeId} {d F id:Nat} {sy:SV} {xs U:List (List AV)} {i:TypeInfo} (B:Rel N w0 μ0 L μ loc st a w) (hd:d<N) (uC:o.dst=some d)
  (ho:o.op= .call { callee:= .builtin .append,args:= #[x,y],argTypes:= #[t,t] }) (hs:isSlice P t=some (e,F)) (hx:aN P t st x=some (.row id)) (hy:aN P t st y=some sy)
  (I:st.ob id=some (.row e F xs)) (hel:elems st sy=some (F,U)) (hi:P.info? e=some i) (hpos:0<F) (hby:(xs.length+U.length) *i.bytes<=140737488355328) (hlen:xs.length+U.length<=4611686018427387904)
  (hz:i.zero.map (λz=>z.cells.size)=some F) (hid:id<10000\/20000<=id) (hK:jX N w0 μ0 L ((st.new id (.row e F (xs++U))).set (some d) (.row id)) K):o.qo P a w K Q:=by
 obtain⟨hu,inf,G,hsz⟩:=eH hs;rw[G] at hi;injection hi with hi;subst hi;obtain⟨z,OV,hzs⟩:∃z,inf.zero=some z/\z.cells.size=F:=by simp_all
 have RL:a.eval x=loc id:=(aG B hx:a.eval x=dO (loc id)).trans (fS (B.obs id _ I));have Ny:=aG B hy;obtain⟨vs,O,hrc,hm⟩:=B.obs id _ I;obtain⟨A,c,HE,us,wD,hsrc⟩:=oQ B hel Ny;have DF:=bV wD;obtain⟨R,w',hrun,DC,l,D⟩:∃R w',(Builtin.append_ #[t,t] o.type #[loc id, .slice A U.length c]).run P w= .ok R w'/\w'.ownsRow 0 e F R (xs.length+U.length) (vs++us)/\w.grownBy w' (loc id).ownBlock/\
   (R.ownBlock=(loc id).ownBlock\/R.ownBlock=some w.heap.size):=by
  cases A with
  |none=>
   have h0:U.length=0:=by
    rcases hsrc with h0|⟨ad,h,_⟩
    .exact h0
    .cases h
   have OS:us=[]:=jc (by simp_all);subst OS;rw[h0];exact⟨loc id,w,uA t o.type e inf hu G (loc id) _ vs F O c,by simp_all,⟨rfl,rfl,rfl,aJ _,λ_ _ _=>rfl⟩, .inl rfl⟩
  |some ad=>
   have V:∀j u,us[j]? =some u->w.cell? (ad.add j)=some u:=by rcases hsrc with h0|⟨ad',h,hc⟩<;>simp_all
   obtain⟨R,w',h1,h2,h3,_,h5⟩:=run_append_own_at (P:=P) w 0 t o.type e inf z F inf.bytes hu G OV hsz rfl hzs hpos (loc id) xs.length vs O ad U.length c us DF V (jq wD) (by simp only[maxLen];omega) hby (cB _);grind
 have SS:∀v:Value,(∃A n c,v= .slice A n c)->v.ownBlock=aP v:=by rintro v ⟨A,n,c,rfl⟩;cases A<;>rfl
 have Db:∃A n c,loc id= .slice A n c:=by rcases O.2 with⟨e1,_⟩|⟨g,cap,cur,e1,_⟩<;>simp_all
 have W:∃A n c,R= .slice A n c:=by rcases DC.2 with⟨e1,_⟩|⟨g,cap,cur,e1,_⟩<;>simp_all
 rw[SS _ Db] at l D;rw[SS _ W] at D;have hok:=B.obs id _ I;refine eW (v:=R) (w':=w') (by simp_all[execOp,resolve,invoke,builtin]) ?_;rw[uC]
 have h1:=(B.drop id).world (w':=w') (Mu.le.refl _) (λ_ _ _ h=> .inl h) (λb j v h=>by
   have hc:=B.qk b j v h;have hlt:=jx hc;have H:some b≠aP (loc id):=λe=>by have:=(hok.block b (.inl e.symm)).2.2 j;simp_all
   rw[dW (l.block b hlt H)];omega) (λk ok hk b q=>by
   by_cases e':id=k
   .simp_all[br]
   .simp only[aM _ _ e'] at hk;obtain⟨_,hlt,uq⟩:=(B.obs k ok hk).block b q;have H:some b≠aP (loc id):=λe=>B.apart id k _ ok I hk e' b (.inl e.symm) q
    exact⟨l.block b hlt H,uq⟩) (λb q hl=>by
   refine l.block b (dH q B.grown) (λe=> ?_);rcases(hok.block b (.inl e.symm)).1 with h|⟨v,hv,h⟩
   .omega
   .exact hl ⟨id,v,hv,h⟩) l.os l.tape l.output l.size (λ_=>zz hrun)
 have h2:=h1.new (val:=R) (o:= .row e _ _) hid (by
   refine⟨_,?_,ko hrc wD,λg S=> ?_⟩
   .simp_all[bu]
   .rw[bu] at S;replace S:aP R=some g:=by obtain⟨A',n',c',rfl⟩:=W;exact fz.1 S
    rcases D with q|q
    .rw[S] at q;have:=hok.block g (.inl q.symm);simp_all
    .rw[S] at q;injection q with q;subst q
     exact⟨.inl B.grown,qJ B _ (aJ _)⟩) (λj oj hj H g S=>by
   have hj':st.ob j=some oj:=by
    by_cases e':id=j
    .omega
    .simp_all[aM]
   replace S:aP R=some g:=by obtain⟨A',n',c',rfl⟩:=W;exact fz.1 S
   rcases D with q|q
   .rw[S] at q;exact B.apart _ j _ _ I hj' (λe=>H e.symm) g (.inl q.symm)
   .rw[S] at q;injection q with q;intro V2;have:=((B.obs j _ hj').block _ V2).2.1
    omega)
 have heq:St.new { st with ob:=put st.ob id none } id (.row e F (xs++U))=St.new st id (.row e F (xs++U)):=by
  simp[St.new,St.bX];congr 1;funext k;by_cases e':id=k
  .subst e';simp[br]
  .simp[aM _ _ e']
 rw[heq] at h2;exact hK _ _ _ _ (h2.set (λi hi=>by simp_all) (Cj (by obtain⟨A',n',c',rfl⟩:=W;rfl)))
def AN (w:World) (t ty e:TypeId) (i:TypeInfo) (z:Value) (size bytes:Nat) (ht:P.underlying t=some (.slice e)) (hi:P.info? e=some i) (hz:i.zero=some z)
  (H:i.size=size) (W:i.bytes=bytes) (hzs:z.cells.size=size) (A:Option Addr) (n R:Nat) (xs:List Value) (q:w.ownsRow 0 e size (.slice A n R) n xs)
  (a:Addr) (m c:Nat) (l:List Value) (S:l.length=m *size) (B:∀j u,l[j]? =some u->w.cell? (a.add j)=some u) (I:n+m<=maxLen) (D:(n+m) *bytes<=140737488355328) (hm:0<m):
  ∃V w',(Builtin.append_ #[t,t] ty #[.slice A n n, .slice (some a) m c]).run P w= .ok V w'/\w'.ownsRow 0 e size V (n+m) (xs++l)/\w.grownBy w' (Value.ownBlock (.slice A n R))/\
   (V.ownBlock=Value.ownBlock (.slice A n R)\/V.ownBlock=some w.heap.size):=by
 subst H W;have O:(xs++l).length=(n+m) *i.size:=by rw[cC,q.1,S,hU]
 have hge:=grownCap_ge w (n+m) n e;have hcm :=grownCap_le_maxLen w _ n e I;have U:n+m<=9223372036854775807:=by simp[maxLen] at I;omega
 have key:∀row,(w.drew.alloc (.cells (xs.toArray++l.toArray++Builtin.zeroCells z.cells (grownCap w (n+m) n e-(n+m))) e)).ownsRow 0 e _ _ _ _/\
   w.grownBy (w.drew.alloc (.cells (xs.toArray++l.toArray++Builtin.zeroCells z.cells (grownCap w (n+m) n e-(n+m))) e)) row:=λrow=>by
  refine⟨⟨O, .inr ⟨_,_,_,rfl,cB _,oM _ _,hge,hcm,?_,?_⟩⟩,⟨rfl,rfl,rfl,by simp,λk hk _=>heap_alloc_old _ _ k hk⟩⟩
  .simp[Array.size_append,jT,size_zeroCells,hzs,q.1,S,<-hU];simp_all
  grind
 rcases q.2 with⟨F,e2⟩|⟨g,cap,cur,F,_⟩
 .have hx:xs=[]:=jc (by simp_all);injection F with F _ _;subst hx e2 F;have hr:=run_append_nil w t ty e i z ht hi hz a m c _ S B af af (by grind);have G:=key (Value.ownBlock (.slice none 0 R));simp at G⊢;exact⟨_,_,hr,G.1,G.2, .inr rfl⟩
 .injection F with F _ _;subst F;have hr:=run_append_grow w t ty e i z ht hi hz _ n n _ q.1 (q.cells rfl) a m c _ S B af af (growslice_fits af D);exact⟨_,_,hr,(key none).1,(key _).2, .inr rfl⟩
def G5 {o:Oper} {x y:Operand} {t e:TypeId} {d I id:Nat} {sy:SV} {xs H:List (List AV)} {i:TypeInfo} (D:Rel N w0 μ0 L μ loc st a w) (hd:d<N) (uC:o.dst=some d)
  (ho:o.op= .call { callee:= .builtin .append,args:= #[x,y],argTypes:= #[t,t] }) (hs:isSlice P t=some (e,I)) (hx:aN P t st x=some (.aq id .full)) (hy:aN P t st y=some sy)
  (U:st.ob id=some (.row e I xs)) (hel:elems st sy=some (I,H)) (hi:P.info? e=some i) (hpos:0<I) (hby:(xs.length+H.length) *i.bytes<=140737488355328) (hlen:xs.length+H.length<=4611686018427387904)
  (hz:i.zero.map (λz=>z.cells.size)=some I) (hid:id<10000\/20000<=id) (B:H.isEmpty=false) (hK:jX N w0 μ0 L ((st.new id (.row e I (xs++H))).set (some d) (.row id)) K):o.qo P a w K Q:=by
 obtain⟨hu,inf,W,hsz⟩:=eH hs;rw[W] at hi;injection hi with hi;subst hi;obtain⟨z,OV,hzs⟩:∃z,inf.zero=some z/\z.cells.size=I:=by simp_all
 have Ny:=aG D hy;obtain⟨vs,G,hrc,hm⟩:=D.obs id _ U;have Wm:0<H.length:=by cases H with
  |nil=>simp at B
  |cons y H=>simp
 obtain⟨A0,RL⟩:∃A0,a.eval x= .slice A0 xs.length xs.length/\∃c,loc id= .slice A0 xs.length c:=by
  obtain⟨A0,n,c,e1,e2⟩:=aG D hx;have hn:n=xs.length:=by rcases G.2 with⟨e3,e4⟩|⟨g,cap,cur,e3,_⟩<;>simp_all
  simp_all
 obtain⟨RL,c0,hl0⟩:=RL;obtain⟨A,c,HE,us,wD,hsrc⟩:=oQ D hel Ny;have DF:=bV wD;obtain⟨O,w',hrun,DC,l,F⟩:∃O w',(Builtin.append_ #[t,t] o.type #[.slice A0 xs.length xs.length, .slice A H.length c]).run P w= .ok O w'/\w'.ownsRow 0 e I O (xs.length+H.length) (vs++us)/\w.grownBy w' (loc id).ownBlock/\
   (O.ownBlock=(loc id).ownBlock\/O.ownBlock=some w.heap.size):=by
  cases A with
  |none=>simp_all
  |some ad=>
   have S:∀j u,us[j]? =some u->w.cell? (ad.add j)=some u:=by
    rcases hsrc with h0|⟨ad',h,hc⟩
    .omega
    .simp_all
   rw[hl0] at G⊢;obtain⟨O,w',h1,h2,h3,h5⟩:=AN (P:=P) w t o.type e inf z I inf.bytes hu W OV hsz rfl hzs A0 xs.length c0 vs G ad H.length c us DF S (by simp only[maxLen];omega) hby Wm;grind
 have SS:∀v:Value,(∃A n c,v= .slice A n c)->v.ownBlock=aP v:=by rintro v ⟨A,n,c,rfl⟩;cases A<;>rfl
 have Db:∃A n c,loc id= .slice A n c:=by rcases G.2 with⟨e1,_⟩|⟨g,cap,cur,e1,_⟩<;>simp_all
 have V:∃A n c,O= .slice A n c:=by
  rcases DC.2 with⟨e1,_⟩|⟨g,cap,cur,e1,_⟩
  .omega
  .simp_all
 rw[SS _ Db] at l F;rw[SS _ V] at F;have hok:=D.obs id _ U;refine eW (v:=O) (w':=w') (by simp_all[execOp,resolve,invoke,builtin]) ?_;rw[uC]
 have h1:=(D.drop id).world (w':=w') (Mu.le.refl _) (λ_ _ _ h=> .inl h) (λb j v h=>by
   have hc:=D.qk b j v h;have hlt:=jx hc;have B:some b≠aP (loc id):=λe=>by have:=(hok.block b (.inl e.symm)).2.2 j;simp_all
   rw[dW (l.block b hlt B)];omega) (λk ok hk b q=>by
   by_cases e':id=k
   .simp_all[br]
   .simp only[aM _ _ e'] at hk;obtain⟨_,hlt,uq⟩:=(D.obs k ok hk).block b q;have B:some b≠aP (loc id):=λe=>D.apart id k _ ok U hk e' b (.inl e.symm) q
    exact⟨l.block b hlt B,uq⟩) (λb q hl=>by
   refine l.block b (dH q D.grown) (λe=> ?_);rcases(hok.block b (.inl e.symm)).1 with h|⟨v,hv,h⟩
   .omega
   .exact hl ⟨id,v,hv,h⟩) l.os l.tape l.output l.size (λ_=>zz hrun)
 have h2:=h1.new (val:=O) (o:= .row e _ _) hid (by
   refine⟨_,?_,ko hrc wD,λg R=> ?_⟩
   .simp_all[bu]
   .rw[bu] at R;replace R:aP O=some g:=by obtain⟨A',n',c',rfl⟩:=V;exact fz.1 R
    rcases F with q|q
    .rw[R] at q;have:=hok.block g (.inl q.symm);simp_all
    .rw[R] at q;injection q with q;subst q
     exact⟨.inl D.grown,qJ D _ (aJ _)⟩) (λj oj hj B g R=>by
   have hj':st.ob j=some oj:=by
    by_cases e':id=j
    .omega
    .simp_all[aM]
   replace R:aP O=some g:=by obtain⟨A',n',c',rfl⟩:=V;exact fz.1 R
   rcases F with q|q
   .rw[R] at q;exact D.apart _ j _ _ U hj' (λe=>B e.symm) g (.inl q.symm)
   .rw[R] at q;injection q with q;intro V2;have:=((D.obs j _ hj').block _ V2).2.1
    omega)
 have heq:St.new { st with ob:=put st.ob id none } id (.row e I (xs++H))=St.new st id (.row e I (xs++H)):=by
  simp[St.new,St.bX];congr 1;funext k;by_cases e':id=k
  .subst e';simp[br]
  .simp[aM _ _ e']
 rw[heq] at h2;exact hK _ _ _ _ (h2.set (λi hi=>by simp_all) (Cj (by obtain⟨A',n',c',rfl⟩:=V;rfl)))
def G6 {o:Oper} {x y:Operand} {t e e2:TypeId} {d F id k s2:Nat} {sy:SV} {xs H:List (List AV)} {zs:List (Option (List (List AV)))} {i:TypeInfo} (G:Rel N w0 μ0 L μ loc st a w) (hd:d<N) (uC:o.dst=some d)
  (ho:o.op= .call { callee:= .builtin .append,args:= #[x,y],argTypes:= #[t,t] }) (hs:isSlice P t=some (e,F)) (hx:aN P t st x=some (.row id)) (hy:aN P t st y=some sy)
  (V:st.ob id=some (.rn e F k e2 s2 xs zs)) (hel:elems st sy=some (F,H)) (S:P.info? e=some i) (hpos:0<F) (hby:(xs.length+H.length) *i.bytes<=140737488355328) (hlen:xs.length+H.length<=4611686018427387904)
  (hz:i.zero.map (λz=>z.cells.size)=some F) (hid:id<10000\/20000<=id) (hall:H.all (mu k)=true) (hK:jX N w0 μ0 L ((st.new id (.rn e F k e2 s2 (xs++H.map λc=>c.set k .hole) (zs++H.map λ_=>some []))).set (some d) (.row id)) K):o.qo P a w K Q:=by
 obtain⟨D,inf,U,hsz⟩:=eH hs;rw[U] at S;injection S with S;subst S;obtain⟨z,OV,hzs⟩:∃z,inf.zero=some z/\z.cells.size=F:=by cases hzz:inf.zero with
  |none=>simp[hzz] at hz
  |some z=>simp[hzz] at hz;exact⟨z,rfl,hz⟩
 obtain⟨m,vu,vs,hl,hm,I,hrc,hk,h2,h3,h4,h5,h6,h7⟩:=G.obs id _ V;have RL:a.eval x=m:=(aG G hx:a.eval x=dO (loc id)).trans (by rw[hl];rfl);have Ny:=aG G hy;obtain⟨A,c,HE,us,wD,hsrc⟩:=oQ G hel Ny;have DF:=bV wD;obtain⟨hus',EK⟩:=qR wD hall hk.1;obtain⟨v',w',hrun,W,l,hblk⟩:∃v' w',(Builtin.append_ #[t,t] o.type #[m, .slice A H.length c]).run P w= .ok v' w'/\w'.ownsRow 0 e F v' (xs.length+H.length) (vs++us)/\w.grownBy w' m.ownBlock/\
   (v'.ownBlock=m.ownBlock\/v'.ownBlock=some w.heap.size):=by
  cases A with
  |none=>
   have h0:H.length=0:=by
    rcases hsrc with h0|⟨ad,h,_⟩
    .exact h0
    .cases h
   have OS:us=[]:=jc (by rw[DF,h0];simp);subst OS;rw[h0];exact⟨m,w,uA t o.type e inf D U m _ vs F I c,by simpa using I,⟨rfl,rfl,rfl,aJ _,λ_ _ _=>rfl⟩, .inl rfl⟩
  |some ad=>
   have hcells:∀j u,us[j]? =some u->w.cell? (ad.add j)=some u:=by
    rcases hsrc with h0|⟨ad',h,R⟩
    .have OS:us=[]:=jc (by rw[DF,h0];simp);subst OS;intro j u D;simp at D
    .injection h with h;subst h;exact R
   obtain⟨v',w',h1,h2,h3,_,h5⟩:=run_append_own_at (P:=P) w 0 t o.type e inf z F inf.bytes D U OV hsz rfl hzs hpos m xs.length vs I ad H.length c us DF hcells (jq wD) (by simp only[maxLen];omega) hby (cB _);exact⟨v',w',h1,h2,h3,h5⟩
 have SS:∀v:Value,(∃A n c,v= .slice A n c)->v.ownBlock=aP v:=by rintro v ⟨A,n,c,rfl⟩;cases A<;>rfl
 have z1:∀{w:World} {v:Value} {n:Nat} {cs:List Value} {e s:Nat},w.ownsRow 0 e s v n cs->∃A n c,v= .slice A n c:=λho=>by rcases ho.2 with⟨e1,_⟩|⟨g,cap,cur,e1,_⟩<;>exact⟨_,_,_,e1⟩
 have BP:=z1 I;have Vm:=z1 W;rw[SS _ BP] at l hblk;rw[SS _ Vm] at hblk;have hok:=G.obs id _ V;have Wf:∀g,aP m=some g->gE (loc id) g:=λg B=>by rw[hl];exact gO.2 (.inl B)
 have Wg:∀u∈vu,∀g,aP u=some g->gE (loc id) g:=λu D g B=>by rw[hl];exact gO.2 (.inr ⟨u,D,B⟩)
 refine eW (v:=v') (w':=w') (by unfold execOp;rw[ho];simp[resolve,invoke,builtin,RL,HE,hrun]) ?_;rw[uC]
 have h1:=(G.drop id).world (w':=w') (Mu.le.refl _) (λ_ _ _ h=> .inl h) (λb j v h=>by
   have R:=G.qk b j v h;have hlt:=jx R;have O:some b≠aP m:=λe=>by have:=(hm b e.symm).2 j;rw[this] at h;cases h
   rw[dW (l.block b hlt O)];omega) (λk ok hk b hb=>by
   by_cases e':id=k
   .subst e';simp[br] at hk
   .simp only[aM _ _ e'] at hk;obtain⟨_,hlt,uq⟩:=(G.obs k ok hk).block b hb;have O:some b≠aP m:=λe=>G.apart id k _ ok V hk e' b (Wf b e.symm) hb
    exact⟨l.block b hlt O,uq⟩) (λb hb hl'=>by
   refine l.block b (dH hb G.grown) (λe=> ?_);rcases(hm b e.symm).1 with h|⟨v,hv,h⟩
   .omega
   .exact hl' ⟨id,v,hv,h⟩) l.os l.tape l.output l.size (λ_=>zz hrun)
 have hvl:=bV hrc;have mem:∀u∈vu++H.map (λ_=>(.slice none 0 0:Value)),u∈vu\/u= .slice none 0 0:=λu D=>by
  rcases bn.1 D with D|D
  .exact .inl D
  .obtain⟨c,_,rfl⟩:=aA.1 D;exact .inr rfl
 have hvg:∀g,aP v'=some g->(aP m=some g)\/g=w.heap.size:=λg B=>by grind
 have h2':=h1.new (id:=id) (val:= .tuple (v'::(vu++H.map λ_=>(.slice none 0 0:Value))).toArray) (o:= .rn e F k e2 s2 (xs++H.map λc=>c.set k .hole) (zs++H.map λ_=>some [])) hid (by
   refine⟨v',_,vs++us,bu _ _ _,λg B=> ?_,by rw[cC,aR];exact W,ko hrc hus',⟨hk.1,λc R=> ?_⟩,by simp[h2],by simp[h3],λi zs' S=> ?_,λi S=> ?_,λu D g B hgv=> ?_,λi j u v D hv hij g B hg'=> ?_⟩
   .rcases hvg g B with hb|rfl
    .exact⟨(hm g hb).1,(hm g hb).2⟩
    .exact⟨.inl G.grown,qJ G _ (aJ _)⟩
   .rcases bn.1 R with R|R
    .exact hk.2 c R
    .obtain⟨c',Vk,rfl⟩:=aA.1 R;have:=tS (cH.1 hall c' Vk);rw[ji (bp.1 this).1]
   .by_cases hil:i<zs.length
    .rw[c7 hil] at S;obtain⟨u,cells,k1,k2,k3,k4,k5⟩:=h4 i zs' S;refine⟨u,cells,by rw[c7 af];exact k1,by rw[c7 (bp.1 k2).1];exact k2,jo k3 (λg B=> ?_),k4,k5⟩;exact l.block g (oD k3 B) (λe=>h6 u (aS k1) g B e.symm)
    .rw[fc af] at S;simp only[dz,bg] at S;obtain⟨c,R,e1⟩:=S;simp only[aB] at e1;subst e1;have EJ:=(bp.1 R).1;refine⟨.slice none 0 0,[],by rw[fc af];simp[h2,R],?_,⟨ah, .inl ⟨rfl,rfl⟩⟩,rfl,λg B=>by simp[aP] at B⟩;have e3:i *F+k-vs.length=(i-zs.length) *F+k:=by
      rw[hvl,h3,Nat.sub_mul]
      have:zs.length *F<=i *F:=jd _ af
      omega
     rw[fc (by rw[hvl,h3];have:zs.length *F<=i *F:=jd _ (by omega);omega),e3];exact EK _ EJ
   .grind
   .rcases mem u D with D|rfl
    .rcases hvg g hgv with hb|rfl
     .grind
     .have:=(hok.block _ (Wg u D _ B)).2.1;omega
    .simp[aP] at B
   .have split:∀q z,(vu++H.map λ_=>(.slice none 0 0))[q]? =some z->∀g,aP z=some g->vu[q]? =some z:=λq z hz g B=>by
     by_cases hq:q<vu.length
     .rwa[c7 hq] at hz
     .rw[fc af] at hz;simp only[dz,bg] at hz;obtain⟨c,_,e1⟩:=hz;subst e1;simp[aP] at B
    exact h7 i j u v (split i u D g B) (split j v hv g hg') hij g B hg') (λj oj hj O g B=>by
   have hj':st.ob j=some oj:=by
    by_cases e':id=j
    .omega
    .simpa only[aM _ _ e'] using hj
   rcases gO.1 B with B|⟨u,D,B⟩
   .rcases hvg g B with hb|rfl
    .exact G.apart _ j _ _ V hj' (λe=>O e.symm) g (Wf g hb)
    .intro V2;have:=((G.obs j _ hj').block _ V2).2.1;omega
   .rcases mem u D with D|rfl
    .exact G.apart _ j _ _ V hj' (λe=>O e.symm) g (Wg u D g B)
    .simp[aP] at B)
 have heq:∀o',St.new { st with ob:=put st.ob id none } id o'=St.new st id _:=λo'=>by
  simp[St.new,St.bX];congr 1;funext k;by_cases e':id=k
  .subst e';simp[br]
  simp_all[aM]
 rw[heq] at h2';exact hK _ _ _ _ (h2'.set (λi S=>by simp_all) (Tl (by rfl)))
def Ac {t k e:TypeId} {r:Option Operand} (z:Rel N w0 μ0 L μ loc st a w) (F:P.underlying t=some (.map k e)) (B:qu P st r=true):(Instr.makeMap t (r.map a.eval)).run P w= .ok (.map (some w.heap.size)) (w.alloc (.map #[] 0)):=by
 have l:(Instr.makeMap t (r.map a.eval)).run P w= .ok (.map (some w.heap.size)) (w.alloc (.map #[] 0)):=by cases r with
  |none=>rfl
  |some x=>simp[qu] at B;cases D:(aN P 0 st x).bind fP with
   |none=>simp_all
   |some y=>cases y with
    |int q n=>have:=dD z D;simp_all[rep,Instr.makeMap,aU,asInt,asIntOf]
    |_=>simp_all
 omega
def G7 {o:Oper} {t k e:TypeId} {r:Option Operand} {d:Nat} (q:Rel N w0 μ0 L μ loc st a w) (D:d<N) (l:o.dst=some d) (I:o.op= .makeMap t r) (H:P.underlying t=some (.map k e))
  (G:qu P st r=true) (B:jX N w0 μ0 L ((st.new d (.mp k e [] [])).set (some d) (.row d)) K):o.qo P a w K Q:=by
 have z:=Ac q H G;refine eW (v:= .map (some w.heap.size)) (w':=w.alloc (.map #[] 0)) (by simp_all[execOp]) ?_;rw[l];refine B _ _ _ _ (q.made D (λg F=>qh.1 F) ?_ ?_)
 .refine⟨_, #[],0,bu _ _ _, .inl q.grown,(by show(w.heap.push _)[w.heap.size]? =_;simp),qJ q _ (aJ _),by rfl,by rfl,⟨ah,ah⟩⟩
 .exact Cj rfl
def Kf {key x:AV} {z B:Value} (h:rz key x=some true) (l:rep μ key z) (q:rep μ x B):z=B/\key=x:=by
 unfold rz at h;split at h
 .rw[rep] at l q;simp_all
 .split at h
  .rw[rep] at l q;simp_all
  grind
 .rw[rep] at l q;simp_all
 grind
def yw {q:Value} {key:AV} (B:rep μ key q) {z:TypeId} (l:gF P z key=true) (w:World):(Instr.keyThatStays q q).run P w= .ok q w:=by
 have D:∀n,Instr.sameBits n q q=true:=by
  unfold gF at l;split at l
  .simp_all[rep,Instr.sameBits,Qz]
  .simp_all[rep,Instr.sameBits]
  .simp_all[rep,Instr.sameBits]
  .cases l
 simp_all[Instr.keyThatStays]
theorem xy {xs:List AV} {l:List Value} (h:bl μ xs l) {i:Nat} {x:AV} {v:Value} (z:rep μ x v):bl μ (xs.set i x) (l.set i v):=by induction xs generalizing l i with
 |nil=>simp_all[bl]
 |cons y xs D=>obtain⟨u,F,rfl,B,q⟩:=h;cases i with
  |zero=>simpa using bq z q
  |succ i=>simp_all[bq]
def wH {t kt et:TypeId} {b:Nat} {l:Array MapEntry} {B:Nat} {key:AV} {kv x:Value} {ks:List AV} {r:Option Nat} (hu:P.underlying t=some (.map kt et)) (hh:w.heap[b]? =some (.map l B)) (G:rep μ key kv) (I:gF P kt key=true)
  (h1:bl μ ks (l.toList.map (·.key))) (hf:lR key ks=some r):
  ∃q D,(Instr.mapUpdate t (.map (some b)) kv x).run P w= .ok () { w with heap:=w.heap.setIfInBounds b (.map q D) }/\
   (r=none->bl μ (ks++[key]) (q.toList.map (·.key))/\q.toList.map (·.val)=l.toList.map (·.val)++[x])/\
   (∀j,r=some j->bl μ ks (q.toList.map (·.key))/\q.toList.map (·.val)=(l.toList.map (·.val)).set j x/\j<l.size)/\(Me l B->Me q D):=by
 have U:=kN G I h1 hf w;cases r with
 |none=>
  refine⟨l.push { key:=kv,val:=x,born:=B },B+1,?_,λ_=>⟨?_,ah⟩,(λj e=>by cases e),λS=>⟨λy H=> ?_,?_⟩⟩
  .simp[Instr.mapUpdate,aU hu,fA hh,fT G I,U,setObj,Sem.run,hh]
  .simp_all[kA,bq,cF]
  .rw[Array.toList_push,bn] at H;rcases H with H|H
   .have:=S.1 y H;omega
   simp_all
  .rw[Array.toList_push,bw,jU];refine⟨S.2,by simp,λa ha b hb=> ?_⟩;obtain⟨y,H,rfl⟩:=aA.1 ha;simp at hb;have:=S.1 y H;omega
 |some j=>
  obtain⟨e,he,V,y,H,hyk⟩:=U;obtain⟨yv,W,hyr⟩:=ow h1 H;have O :=by simpa using he
  have HE :=by simp[O] at W;exact W.symm
  subst HE;obtain⟨R,_⟩:=Kf hyk G hyr;have F:(l.modify j λe=>{ e with key:=kv,val:=x }).toList.map (·.born)=l.toList.map (·.born):=by
   apply je;intro i;by_cases e1:j=i
   .simp_all
   .simp[e1]
  refine⟨_,B,?_,(λe=>by cases e),(λj' ej=> ?_),λS=>⟨λy H=> ?_,by rw[F];exact S.2⟩⟩
  rotate_right
  .have hm:y.born∈l.toList.map (·.born):=by rw[<-F];exact aA.2 ⟨y,H,rfl⟩
   obtain⟨z,hz,e⟩:=aA.1 hm;rw[<-e];exact S.1 z hz
  .simp[Instr.mapUpdate,aU hu,fA hh,fT G I,V,O,<-R,yw G I,setObj,Sem.run,hh]
  .injection ej with ej;subst ej;refine⟨?_,?_,(cO.1 O).1⟩
   .have:(l.modify j λe=>{ e with key:=kv,val:=x }).toList.map (·.key)=l.toList.map (·.key):=by
     apply je;intro i;by_cases e1:j=i
     .simp_all
     .simp[e1]
    simp_all
   .apply je;grind
def ye {o:Oper} {t:TypeId} {m k x:Operand} (hR:Rel N w0 μ0 L μ loc st a w) (H:o.dst=none) (U:o.op= .mapUpdate t m k x\/o.op= .insert t m k x) (h:sB P st t m k x=some st')
  (hK:jX N w0 μ0 L st' K):o.qo P a w K Q:=by
 unfold sB at h;split at h
 .rename_i kt et hu;split at h
  .rename_i st1 B;obtain⟨F,z⟩:∃F,Rel N w0 μ0 L F loc st1 a w:=by
    unfold Kh at B;split at B
    .grind
    .obtain⟨μ',_,h'⟩:=hR.bY B;grind
    simp_all
   split at h
   .rename_i id key v hm hk hx;split at h
    .rename_i k' e' ks vs I;cases W:(gF P kt key&&v.Af) with
     |false=>simp_all
     |true=>
      simp[W] at h;simp at W;split at h
      .rename_i ks' vs' R;injection h with h;subst h;obtain⟨b,j7,V,hl,O,hh,uq,h1,h2,hB⟩:=z.obs _ _ I;have BP:a.eval m= .map (some b):=by
        have:=aG z hm;rw[this,hl];rfl
       have hkr:=dD z hk;have hxr:=dD z hx;have S:∃l q,(Instr.mapUpdate t (a.eval m) (a.eval k) (a.eval x)).run P w= .ok () { w with heap:=w.heap.setIfInBounds b (.map l q) }/\bl F ks' (l.toList.map (·.key))/\bl F vs' (l.toList.map (·.val))/\Me l q:=by unfold xg at R;cases hf:lR key ks with
        |none=>simp_all
        |some r=>obtain⟨l,q,G,q1,q2,q3⟩:=wH (x:=a.eval x) hu hh hkr W.1 h1 hf;grind[kA,bq,cF,xy]
       obtain⟨l,q,G,r1,r2,r3⟩:=S;have hlt:=(cO.1 hh).1;have D:=z.write I (by rw[hl];exact qh.2 rfl) (w':={ w with heap:=w.heap.setIfInBounds b (.map l q) }) (o':= .mp k' e' _ _) (λb' hb'=>by grind) rfl rfl rfl ah ⟨b,_,_,hl,O,by simp[hlt],uq,r1,r2,r3⟩
       have:((execOp a.eval o).run P w)= .ok .skip { w with heap:=w.heap.setIfInBounds b (.map l q) }:=by unfold execOp;rcases U with U|U<;>rw[U]<;>simp[G]
       exact yX this (by rw[H];exact hK _ _ _ _ D)
      grind
    grind
   grind
  grind
 grind
def yK {xs:List AV} {l:List Value} (h:bl μ xs l) (i:Nat):bl μ (xs.eraseIdx i) (l.eraseIdx i):=by induction xs generalizing l i with
 |nil=>simp_all[bl]
 |cons x xs B=>obtain⟨u,D,rfl,q,z⟩:=h;cases i with
  |zero=>assumption
  |succ i=>simp_all[bq]
def DL {q B:Type} (f:q->B) (l:List q) (j:Nat):(l.eraseIdx j).map f=(l.map f).eraseIdx j:=by induction l generalizing j with
 |nil=>rfl
 |cons x l z=>cases j with
  |zero=>rfl
  |succ j=>simp[z]
theorem JG {o:Oper} {c:Call} {t:TypeId} {ts:List TypeId} {m k:Operand} (hR:Rel N w0 μ0 L μ loc st a w) (R:o.dst=none) (ho:o.op= .call c) (hc:c.callee= .builtin .delete) (ha:c.args.toList=[m,k]) (ht:c.argTypes.toList=t::ts) (h:sA P st t m k=some st')
  (hK:jX N w0 μ0 L st' K):o.qo P a w K Q:=by
 obtain⟨callee,⟨args⟩,⟨O⟩⟩:=c;simp only at hc ha ht;subst hc;subst ha;subst ht;unfold sA at h;split at h
 .rename_i kt et hu;split at h
  .rename_i id key hm hk;split at h
   .rename_i k' e' ks vs V;cases B:gF P kt key with
    |false=>simp_all
    |true=>
     simp only[B,ai] at h;split at h
     .rename_i ks' vs' z;injection h with h;subst h;obtain⟨b,F,q,hl,W,S,uq,h1,h2,hB⟩:=hR.obs id _ V;have U:a.eval m= .map (some b):=by
       have:=aG hR hm;simp only[eV] at this;rw[this,hl];rfl
      have I:=dD hR hk;have key1:∃l,(Builtin.delete_ (t::ts).toArray o.type #[a.eval m,a.eval k]).run P w= .ok (.tuple #[]) { w with heap:=w.heap.setIfInBounds b (.map l q) }/\bl μ ks' (l.toList.map (·.key))/\bl μ vs' (l.toList.map (·.val))/\Me l q:=by unfold UD at z;cases hf:lR key ks with
       |none=>simp_all
       |some r=>have H:=kN I B h1 hf w;cases r with
        |none=>simp only[hf,aB,aQ] at z;obtain⟨rfl,rfl⟩:=z;simp only[] at H;exact⟨F,by simp[Builtin.delete_,U,aU hu,fA S,fT I B,H,setObj,Sem.run,S],h1,h2,hB⟩
        |some j=>
         simp[hf] at z;obtain⟨rfl,rfl⟩:=z;obtain⟨e,he,G,_⟩:=H;refine⟨F.eraseIdxIfInBounds j,by simp[Builtin.delete_,U,aU hu,fA S,fT I B,G,setObj,Sem.run,S],?_,?_,⟨λy hy=>hB.1 y (by grind),by rw[Array.toList_eraseIdxIfInBounds];exact hB.2.sublist ((List.eraseIdx_sublist _ _).map _)⟩⟩
         .simp_all[yK,DL]
         simp_all[yK,DL]
      obtain⟨l,G,r1,r2,r3⟩:=key1;have hlt:=(cO.1 S).1;have D:=hR.write V (by rw[hl];exact qh.2 rfl) (w':={ w with heap:=w.heap.setIfInBounds b (.map l q) }) (o':= .mp k' e' _ _) (λb' hb'=>by grind) rfl rfl rfl ah ⟨b,_,_,hl,W,by simp[hlt],uq,r1,r2,r3⟩
      refine eW (v:= .tuple #[]) (w':={ w with heap:=w.heap.setIfInBounds b (.map l q) }) (by
       unfold execOp;simp[resolve,invoke,builtin]
       simp_all) ?_
      rw[R];exact hK _ _ _ _ D
     grind
   grind
  grind
 grind
def tX {id:Nat} {val:Value} {I:Array Value} (q:loc id= .tuple I) (l:dO val=dO (loc id)):∀{D:List l8} {B:List Value},gW μ loc D B->gW μ (nZ loc id val) D B
 |[],B,h=>h
 |c::D,B,⟨u,_,e,z,F⟩=>by refine⟨u,_,e,?_,tX q l F⟩;cases c with
  |v a=>exact z
  |p j=>
   obtain⟨b,O,H⟩:=z;have G:j≠id:=λe=>by simp_all
   exact⟨b,by simp_all[bB],H⟩
  |r j=>
   show u=dO _;by_cases e:j=id
   .subst e;rw[bu,l];exact z
   .rw[bB _ _ e];exact z
theorem DW {id:Nat} {val:Value} {W:Array Value} (B:loc id= .tuple W) (l:dO val=dO (loc id)) {s:SV} {v:Value} (z:(∀q u,sK q (loc id) u->sK q val u)\/s.mentions (id+40000)=false) (k:eV μ loc s v):eV μ (nZ loc id val) s v:=by induction s generalizing v with
 |undef=>exact k
 |any=>exact k
 |pv y=>exact k
 |cp cs=>exact k
 |ptr j O=>
  obtain⟨b,G,F⟩:=k;have I:j≠id:=λe=>by simp_all
  exact⟨b,by simp_all[bB],F⟩
 |row j=>
  show v=dO _;by_cases e:j=id
  .subst e;rw[bu,l];exact k
  .rw[bB _ _ e];exact k
 |rp j V i O=>obtain⟨g,n,c,G,F⟩:=k;refine⟨g,n,c,?_,F⟩;grind[bu,bB]
 |sub j V lo hi=>
  obtain⟨A,n,c,S,c',G,F⟩:=k;have I:j≠id:=λe=>by simp_all
  exact⟨A,n,c,S,c',by simp_all[bB],F⟩
 |cl f D=>obtain⟨R,e,H⟩:=k;exact⟨R,e,tX B l H⟩
 |ag D=>obtain⟨R,e,H,G⟩:=k;exact⟨R,e,tX B l H,G⟩
 |aq j q=>
  show sK q _ v;by_cases e:j=id
  .subst e;rw[bu];rcases z with z|z
   .exact z q v k
   simp_all[SV.mentions]
  .rw[bB _ _ e];exact k
 |two s b U=>obtain⟨y,e,k⟩:=k;exact⟨y,e,U z k⟩
def Cg {id:Nat} {val:Value} {O:Array Value} (z:loc id= .tuple O) (l:dO val=dO (loc id)):∀{D:List SV} {F:List Value},((∀q u,sK q (loc id) u->sK q val u)\/∀c∈D,c.mentions (id+40000)=false)->fK μ loc D F->fK μ (nZ loc id val) D F
 |[],F,_,h=>h
 |c::D,F,B,⟨u,_,e,G,H⟩=>⟨u,_,e,DW z l (B.imp (λh=>h) λh=>h c ah) G,Cg z l (B.imp (λh=>h) λh c I=>h c (by simp[I])) H⟩
def UH (id:Nat):Ob->Prop
 | .box _ cells=>∀c∈cells,c.mentions (id+40000)=false
 |_=>True
def M4 {W:Nat} {i id:Nat} {val:Value} {D:Array Value} (I:loc id= .tuple D) (B:dO val=dO (loc id)) {o:Ob} (R:(∀q u,sK q (loc id) u->sK q val u)\/UH id o) (h:jC W L μ loc w i o) (hne:i≠id):jC W L μ (nZ loc id val) w i o:=by cases o with
 |box t cells=>obtain⟨b,F,H,ho,hh,S,hs,O⟩:=h;exact⟨b,F,by simp_all[bB],ho,hh,S,Cg I B R hs,O⟩
 |row e sz xs=>obtain⟨F,V,U,S⟩:=h;refine⟨F,by simp_all[bB],U,λg hg=>S g (by simp_all[bB])⟩
 |mp k e ks es=>obtain⟨b,G,z,H,l⟩:=h;exact⟨b,_,_,by simp_all[bB],l⟩
 |mr k e sz ks F=>obtain⟨b,G,z,D,H,l⟩:=h;exact⟨b,_,_,D,by simp_all[bB],l⟩
 |it s pos=>obtain⟨b,H,l⟩:=h;exact⟨b,by simp_all[bB],l⟩
 |lp xs=>obtain⟨D,H,O,h2⟩:=h;exact⟨D,by simp_all[bB],λg hg=>O g (by simp_all[bB]),h2⟩
 |rn e sz k e' sz' xs ys=>obtain⟨m,D,F,H,l⟩:=h;exact⟨m,D,F,by simp_all[bB],l⟩
def Tb {id b:Nat} {B:List Value} {val:Value} {X:Prop} (z:loc id= .tuple (.map (some b)::B).toArray):(∀q u,sK q (loc id) u->sK q val u)\/X:= .inl λq u l=>by rw[z] at l;cases q with
 |full=>obtain⟨A,n,c,e,_⟩:=l;cases e
 |nr q=>obtain⟨G,D,e,⟨A,n,c,F⟩,_⟩:=l;simp_all
def Rel.L2 (D:Rel N w0 μ0 L μ loc st a w) {id:Nat} {o o':Ob} {val:Value} {us:Array Value} (ho:st.ob id=some o) (S:loc id= .tuple us) (F:dO val=dO (loc id)) (B:id<10000) {g:Nat} (hg:gE (loc id) g) {w':World}
  (I:∀b,b≠g->w'.heap[b]? =w.heap[b]?) (hos:w'.os=w.os) (H:w'.tape=w.tape) (O:w'.output=w.output) (hsz:w'.heap.size=w.heap.size)
  (qq:jC w0.heap.size L μ (nZ loc id val) w' id o') (hap:∀j oj,st.ob j=some oj->j≠id->∀q,gE val q->¬gE (loc j) q) (W:(∀q u,sK q (loc id) u->sK q val u)\/((∀i s,st.env i=some s->s.mentions (id+40000)=false)/\∀i V,st.ob i=some V->UH id V)) (hdr:L.q->w.drawn<=w'.drawn:=by exact λ_=>aJ _):Rel N w0 μ0 L μ (nZ loc id val) { st with ob:=put st.ob id (some o') } a w':=by
 obtain⟨R,hlt,uq⟩:=(D.obs _ o ho).block g hg
 have l:=(D.drop id).world (Mu.le.refl _) (λ_ _ _ h=> .inl h) (λb j v h=>by
   have:=D.qk b j v h
   grind[dW]) (λi V z b hb=>by
   by_cases e:id=i
   .subst e;simp[br] at z
   .simp[aM _ _ e] at z;have G:b≠g:=λe'=>by subst e';exact D.apart _ i o _ ho z e b hg hb
    exact⟨I b G,((D.obs i _ z).block b hb).2.2⟩) (λb hb hl=>by
   refine I b (λe=> ?_);subst e;rcases R with h|⟨v,U,h⟩
   .omega
   .exact hl ⟨id,v,U,h⟩) hos H O af hdr
 refine⟨l.small,l.names,?_,l.size,l.defers,?_,l.qk,l.base,?_,?_,l.keep,l.os,l.tape,l.output,l.grown,l.drawn⟩
 .intro i v U z;have G:i≠id:=λe=>by subst e;rw[D.names i B] at U;grind
  rw[bB _ _ G];exact D.fix i v U z
 .intro i s z;obtain⟨v,U,hr⟩:=l.env i s z;grind[DW]
 .intro i V z;by_cases e:id=i
  .simp_all[br]
  .simp[aM _ _ e] at z;exact M4 S F (W.imp (λh=>h) λh=>h.2 i _ z) (l.obs i _ (by simp_all[aM])) (bI e)
 .intro i j V oj z hj hij q hq;by_cases ei:id=i
  .simp_all[aM,bu,bB,bI]
  .simp[aM _ _ ei] at z;rw[bB _ _ (bI ei)] at hq;by_cases ej:id=j
   .grind[bu]
   .simp[aM _ _ ej] at hj;rw[bB _ _ (bI ej)];exact D.apart i j _ _ z hj hij q hq
def Rel.AY (l:Rel N w0 μ0 L μ loc st a w) (id:Nat):Rel N w0 μ0 L μ loc (st.bX id) a w:=by
 have V:nZ loc id (loc id)=loc:=funext λi=>by grind[bu,bB]
 have q:∀i D,(st.bX id).ob i=some D->i≠id/\∃F,st.ob i=some F/\D=F.bX id:=λi D h=>by
  by_cases e:id=i
  .simp_all[St.bX,br]
  .simp[St.bX,aM _ _ e,bg] at h;grind
 refine⟨l.small,l.names,l.fix,l.size,l.defers,?_,l.qk,l.base,?_,?_,l.keep,l.os,l.tape,l.output,l.grown,l.drawn⟩
 .intro i s z;simp[St.bX,bg] at z;obtain⟨s',B,rfl⟩:=z;obtain⟨v,W,U⟩:=l.env i _ B;simp_all[gH]
 .intro i D z;obtain⟨H,F,B,rfl⟩:=q i _ z;have:=xu (x:=loc id) (l.obs i _ B) H;simp_all
 .intro i j D F z O G;obtain⟨_,R,B,_⟩:=q i _ z;obtain⟨_,S,I,_⟩:=q j _ O;exact l.apart i j _ _ B I G
def u9 {t:TypeId} {m k:Operand} {B:TypeId} {id:Nat} {key:AV} {k' e:TypeId} {F:Nat} {D:List AV} {G:List (Option (List (List AV)))} (h:DN P st t m k=some (B,id,key,k',e,F,D,G)):
  ∃q,P.underlying t=some (.map q B)/\aN P t st m=some (.row id)/\(aN P q st k).bind fP =some key/\st.ob id=some (.mr k' e F D G)/\gF P q key=true/\id<10000:=by
 unfold DN at h;split at h
 .rename_i q H S;split at h
  .rename_i z l R O;split at h
   .cases I:(gF P q l&&Nat.blt z 10000) with
    |false=>simp_all
    |true=>simp_all
   grind
  grind
 grind
def IZ {t:TypeId} {s:Nat} (h:lQ P t=some (.c4 s [])) (w:World):(zeroValue t).run P w= .ok (.slice none 0 0) w:=by
 unfold lQ at h;split at h
 .split at h
  .simp_all
  .unfold ofConst at h;split at h
   .cases h
   .cases h
   .cases h
   .simp_all[zeroValue,typeInfo]
   .cases h
   .cases h
   .grind
   grind
  grind
 grind
def Dp {o:Oper} {t:TypeId} {x:Operand} {d:Nat} (W:Rel N w0 μ0 L μ loc st a w) (hd:d<N) (uC:o.dst=some d) (ho:o.op= .load t x) (h:rI P st t x d=some st') (hK:jX N w0 μ0 L st' K):o.qo P a w K Q:=by
 unfold rI at h;split at h
 .rename_i id sz i off O hagg;split at h
  .rename_i e sz' k e' s' xs ys S;split at h
   .rename_i zs hvi;cases hb:(Nat.beq sz sz'&&Nat.beq off k&& !(Nat.beq id d)&&Nat.blt id 10000) with
    |false=>simp_all
    |true=>
    rw[hb] at h;simp only[ai,aB] at h;subst h;simp only[aF,ga] at hb;obtain⟨⟨⟨b1,b2⟩,b3⟩,b4⟩:=hb;have V:=beq_iff.1 b1;have e2:=beq_iff.1 b2;subst V e2;have hne:id≠d:=λe=>by simp_all
    have hid:id<10000:=bA.mp b4;have hd':d<10000:=dH hd W.small;obtain⟨g,n,c,H,Wv⟩:=aG W O;obtain⟨m,us,vs,hl,hm,U,hrc,hk,h2,h3,h4,h5,h6,h7⟩:=W.obs id _ S;obtain⟨u,cells,k1,k2,k3,k4,k5⟩:=h4 i zs hvi;have BP:m= .slice (some ⟨g,0,none⟩) n c:=by rw[hl] at H;exact H
    have I:=U.cells (g:=g) (by rw[BP];rfl) _ _ k2;rw[add_lit,fW] at I
    refine eW (v:=u) (w':=w) (by
     unfold execOp;rw[ho]
     simp[Wv,Instr.loadAt,Instr.sureAddr,loadVar,mS hagg,I]) ?_
    rw[uC];have hil:i<us.length:=(bp.1 k1).1;have hLid:∀{q},zq w0.heap.size L id q->w0.heap.size<=q:=λ{q} B=>by
     rcases B with B|⟨v,hv,_⟩
     .exact B
     .rw[W.names id hid] at hv;cases hv
    have r1:=W.L2 (id:=id) (o':= .rn e sz off e' s' xs (ys.set i none)) (val:= .tuple (m::us.set i undef).toArray) (g:=g) (w':=w) S hl (by rw[hl];rfl) hid (by rw[hl];exact gO.2 (.inl (by rw[BP];rfl))) (λ_ _=>rfl) rfl rfl rfl rfl (by
      have W7:∀(q:Nat) (z:Value),(us.set i undef)[q]? =some z->∀g,aP z=some g->us[q]? =some z:=λq z F g D=>by
       by_cases l:q=i
       .rw[l,ji hil] at F;injection F with F;subst F;simp[undef,aP] at D
       grind
      refine⟨m,us.set i undef,vs,bu _ _ _,hm,U,hrc,hk,by simp[h2],by simp[h3],λq zs' B=> ?_,λq B=> ?_,λz F g D=> ?_,λq q' x y O hy S5 g D hg'=>h7 q q' x y (W7 q x O g D) (W7 q' y hy g hg') S5 g D hg'⟩
      .have l:q≠i:=λe=>by subst e;simp[oN] at B
       rw[fo (bI l)] at B;obtain⟨u',R,m1,m2⟩:=h4 q zs' B;exact⟨u',R,by rw[fo (bI l)];exact m1,m2⟩
      .by_cases l:q=i
       .subst l;simp[oN,hil]
       .rw[fo (bI l)] at B;rw[fo (bI l)];exact h5 q B
      .rcases kL F with F|rfl
       .exact h6 z F g D
       .simp[undef,aP] at D) (λj oj hj G q B=>by
      refine λDE=>W.apart _ j _ _ S hj (bI G) q ?_ DE
      rw[hl];rcases gO.1 B with B|⟨z,F,LB⟩
      .exact gO.2 (.inl B)
      .rcases kL F with F|rfl
       .exact gO.2 (.inr ⟨z,F,LB⟩)
       .simp[undef,aP] at LB) (.inl λq u B=>by
      rw[hl] at B;cases q with
      |full=>obtain⟨A,n,c,e,_⟩:=B;cases e
      |nr q=>
       obtain⟨m',us',e,h1,h2⟩:=B;have e':=aC Array.toList (Value.tuple.inj e);obtain⟨rfl,rfl⟩:=e';refine⟨m,_,rfl,h1,λx O=> ?_⟩;by_cases l:q=i
       .subst l;rw[ji hil] at O;injection O with O;exact .inl O.symm
       .rw[fo (bI l)] at O;exact h2 x O)
    have z1:dO u=u:=by rcases k3.2 with⟨V,_⟩|⟨g,cap,cur,V,_⟩<;>rw[V]<;>rfl
    have hin:∀g,gE u g->aP u=some g:=λg D=>by rcases k3.2 with⟨V,_⟩|⟨g',cap,cur,V,_⟩<;>rw[V] at D⊢<;>exact fz.1 D
    have r2:=r1.new (o:= .row _ _ _) (.inl hd') (by
      refine⟨_,by rw[bu];omega,k4,λg D=> ?_⟩;rw[bu] at D;obtain⟨m1,m2⟩:=k5 g (hin g D)
      exact⟨.inl (hLid m1),m2⟩) (λj oj hj hjd g D=>by
      by_cases G:id=j
      .subst G;rw[bu];intro hb;rcases gO.1 hb with B|⟨z,F,LB⟩
       .grind
       .obtain⟨q,B,eq⟩:=uN.1 F;have Wo:(us.set i undef)[q]? =some z:=by grind
        by_cases l:q=i
        .grind[undef,aP]
        grind
      .simp[aM _ _ G] at hj;rw[bB _ _ (bI G)]
       exact W.apart _ j _ _ S hj G g (by grind[gO]))
    exact hK _ _ _ _ (r2.set (λi hi=>by simp_all) (Cj z1))
   grind
  grind
 grind
def II {q:Type}:∀{l:List q} {k:Nat} {a:q},l[k]? =some a->l.set k a=l
 |[],_,_,h=>by simp at h
 |x::l,0,a,h=>by simp_all
 |x::l,k+1,a,h=>by simp at h;simp[II h]
def wL {q k:Nat} {u:Value} (V:k<q) (F:rep μ .hole u):∀{xs:List (List AV)} {B:List Value} {i:Nat},bS μ q xs B->i<xs.length->(∀c∈xs,c[k]? =some AV.hole)->
  bS μ q xs (B.set (i *q+k) u)/\i *q+k<B.length
 |[],_,_,_,h,_=>by simp at h
 |x::xs,B,i,⟨O,ws,e,D,H,I⟩,hi,l=>by subst e;have W:=l x ah;have U:=F;rw[rep] at U;cases i with
  |zero=>
   rw[uP,fW,xI _ _ af];refine⟨⟨_,ws,rfl,⟨?_,λz G=> ?_⟩,by simp[H],I⟩,aX⟩
   .have:=xy D.1 (i:=k) F;rwa[II W] at this
   .rcases kL G with G|rfl
    .exact D.2 z G
    simp_all
  |succ i=>
   obtain⟨r1,r2⟩:=wL V F I (i:=i) (by simp_all) λc S=>l c (by simp[S])
   have R:(i+1) *q+k-O.length=i *q+k:=by rw[uO];omega
   rw[mU _ _ (by grind),R];exact⟨⟨O,_,rfl,D,H,r1⟩,by grind⟩
def Ia {e:TypeId} {I:Nat} {m u:Value} {n p:Nat} {B:List Value} (h:w.ownsRow 0 e I m n B) (hp:p<B.length) (hu:u.oneCell'=true):
  ∃g z q,m= .slice (some ⟨g,0,none⟩) n z/\(storeCells ⟨g,p,none⟩ [u] 0).run P w= .ok () q/\q.ownsRow 0 e I m n (B.set p u)/\(∀b,b≠g->q.heap[b]? =w.heap[b]?)/\q.os=w.os/\q.tape=w.tape/\q.output=w.output/\q.heap.size=w.heap.size/\q.drawn=w.drawn:=by
 rcases h.2 with⟨_,F⟩|⟨g,z,l,D,_,G,R,S,W,H⟩
 .have:=h.1;simp_all
 .have V:p<l.size:=by
   have F:=aC List.length H;simp at F;omega
  refine⟨g,_,_,D,qZ P g p e _ 0 _ w G aX (by simp_all),⟨by simp[h.1], .inr ⟨g,_,_,D,cB _,uQ w g _ _ e _ G,R,S,?_,?_⟩⟩,λb U=>q7 w g b _ U,rfl,rfl,rfl,by simp,rfl⟩
  .simp;omega
  .have O:l.toList.take (p+0)++[u]++l.toList.drop (p+0+[u].length)=l.toList.set p u:=by
    rw[zR,ak af];simp
   rw[O,List.take_set,H]
def Io {o:Oper} {t:TypeId} {x y:Operand} {id sz i B j:Nat} (O:Rel N w0 μ0 L μ loc st a w) (uC:o.dst=none) (ho:o.op= .store t x y) (hx:aN P 0 st x=some (.rp id sz i B)) (hy:aN P t st y=some (.row j))
  (h:Am P st t id sz i B j=some st') (hK:jX N w0 μ0 L st' K):o.qo P a w K Q:=by
 unfold Am at h;split at h
 .rename_i e sz' k e' s' xs ys e2 s2 zs hagg hsz V D;cases G:(Nat.beq sz sz'&&Nat.beq B k&&Nat.blt id 10000&&Nat.blt j 10000&&Nat.beq e' e2&&Nat.beq s' s2&&Nat.blt i ys.length&& !(Nat.beq id j)) with
  |false=>simp_all
  |true=>
  rw[G] at h;simp only[ai,aB] at h;subst h;simp only[aF,ga] at G;obtain⟨⟨⟨⟨⟨⟨⟨b1,b2⟩,b3⟩,b4⟩,b5⟩,b6⟩,b7⟩,b8⟩:=G;have c1:=beq_iff.1 b1;have c2:=beq_iff.1 b2;have c5:=beq_iff.1 b5;have c6:=beq_iff.1 b6;subst c1 c2 c5 c6;have hne:id≠j:=λe=>by simp_all
  have hid:id<10000:=bA.mp b3;have hj:j<10000:=bA.mp b4;have hil:i<ys.length:=bA.mp b7;obtain⟨g,n,c,R,Wv⟩:=aG O hx;have Ny:a.eval y=loc j:=(aG O hy:a.eval y=dO (loc j)).trans (fS (O.obs j _ D));obtain⟨cells,hrow,MQ,hgj⟩:=O.obs j _ D;obtain⟨m,us,vs,hl,hm,hown,hrc,hk,h2,h3,h4,h5,h6,h7⟩:=O.obs id _ V;have BP:m= .slice (some ⟨g,0,none⟩) n c:=by rw[hl] at R;exact R
  have U:rep μ .hole (loc j):=by rcases hrow.2 with⟨I,_⟩|⟨g',cap,cur,I,_⟩<;>rw[I]<;>simp[rep,Value.oneCell',Value.cells]
  have W:(loc j).oneCell'=true/\(loc j).cells= #[loc j]:=by simpa[rep] using U
  obtain⟨OQ,hp⟩:=wL hk.1 U hrc (i:=i) af hk.2;obtain⟨g',cap,w',I,hrun,hown',hch,hos,Wt,hout,hsize,hdr⟩:=Ia (P:=P) hown hp W.1;have eg:g=g':=by rw[BP] at I;simp at I;exact I.1
  subst eg;have hin:∀q,gE (loc j) q->aP (loc j)=some q:=λq l=>by rcases hrow.2 with⟨I,_⟩|⟨g',cap,cur,I,_⟩<;>rw[I] at l⊢<;>exact fz.1 l
  have S:∀q,aP (loc j)=some q->¬gE (loc id) q:=λq l=>O.apart j id _ _ D V (bI hne) q (.inl l)
  have hbm:∀q,aP (loc j)=some q->aP m≠some q:=λq l e=>S q l (by rw[hl];exact gO.2 (.inl e))
  have hbu:∀u∈us,∀q,aP u=some q->aP (loc j)≠some q:=λu hu q l e=>S q e (by rw[hl];exact gO.2 (.inr ⟨u,hu,l⟩))
  have hmg:aP m=some g:=by rw[BP];rfl
  refine yX (w':=w') (by
   unfold execOp;rw[ho];have h1:(a.eval y).cells.size=1:=by rw[Ny,W.2];rfl
   have h2:(a.eval y).cells.toList=[loc j]:=by rw[Ny,W.2]
   simp only[Instr.storeAt,Wv,Instr.sureAddr,ek,jf,e9,storeVar,iq hsz,h1,h2,ne_eq,uR,jg,hrun]) ?_
  rw[uC];have hob1:((st.bX j).bX (id+40000)).ob id=some (.rn e sz B e' s' xs ys):=by have hne2:id+40000≠id:=af;simp[St.bX,aM _ _ (bI hne),aM _ _ hne2,V,Ob.bX]
  have hnm:∀(s:SV) (q:Nat),(s.bX q).mentions q=false:=λs q=>by unfold SV.bX;cases h:s.mentions q with
   |true=>rfl
   |false=>exact h
  have iu:i<us.length:=af
  refine hK _ _ _ _ (((O.AY j).AY (id+40000)).L2 (id:=id) (o':= .rn e sz B e' s' xs (ys.set i (some zs))) (val:= .tuple (m::us.set i (loc j)).toArray) (g:=g) (w':=w') hob1 hl (by rw[hl];rfl) hid (by rw[hl];exact gO.2 (.inl hmg)) hch hos Wt hout hsize ?_ (λq oj l H z F LB=> ?_) (.inr ⟨λt s hs=>by
   simp only[St.bX,bg] at hs;obtain⟨s',_,rfl⟩:=hs;exact hnm _ _,λt o ho'=>by
   by_cases e:id+40000=t
   .subst e;simp[St.bX,br] at ho'
   .simp only[St.bX,aM _ _ e,bg] at ho';obtain⟨o1,_,rfl⟩:=ho';cases o1<;>simp only[Ob.bX,UH];intro c hc;obtain⟨c',_,rfl⟩:=aA.1 hc
    exact hnm _ _⟩) (λ_=>by omega))
  .have split:∀q z,(us.set i (loc j))[q]? =some z->us[q]? =some z/\q≠i\/q=i/\z=loc j:=λq z F=>by
    by_cases l:q=i
    .subst l;rw[ji iu] at F;injection F with F;exact .inr ⟨rfl,F.symm⟩
    .rw[fo (bI l)] at F;exact .inl ⟨F,l⟩
   refine⟨m,us.set i (loc j),vs.set (i *sz+B) (loc j),bu _ _ _,hm,hown',OQ,hk,by simp[h2],by simp[h3],λq zs' l=> ?_,λq l=> ?_,λz F q l=> ?_,λq q' z z' F hz' S5 b G hb'=> ?_⟩
   .by_cases H:q=i
    .subst H;rw[ji hil] at l;simp only[aB] at l;subst l;refine⟨loc j,cells,by rw[ji iu],by rw[ji hp],jo hrow (λb G=>hch b λe=>by subst e;exact hbm b G hmg),MQ,λb G=> ?_⟩;obtain⟨m1,m2⟩:=hgj b (.inl G);rcases m1 with m1|⟨v,hv,_⟩
     .exact⟨.inl m1,m2⟩
     .rw[O.names j hj] at hv;cases hv
    .rw[fo (bI H)] at l;obtain⟨u',cells',m1,m2,m3,m4,m5⟩:=h4 q zs' l;have hpq:i *sz+B≠q *sz+B:=λe=>H (Nat.eq_of_mul_eq_mul_right (sO (cB _) hk.1) af)
     exact⟨u',_,by grind,by rw[fo hpq];exact m2,jo m3 (λb G=>hch b λe=>by grind),m4,m5⟩
   .grind
   .grind
   .rcases split q z F with⟨OT,_⟩|⟨I,e2⟩<;>rcases split _ _ hz' with⟨Wu,_⟩|⟨e3,e4⟩
    .exact h7 q _ z _ OT Wu S5 b G hb'
    .rw[e4] at hb';exact hbu z (aS OT) b G hb'
    .rw[e2] at G;exact hbu _ (aS Wu) b hb' G
    .exact S5 (I.trans e3.symm)
  .have hq4:id+40000≠q:=λe=>by subst e;simp[St.bX,br] at l
   rw[St.bX] at l;simp[aM _ _ hq4,bg] at l;obtain⟨oj0,l,_⟩:=l;have DE:q≠j:=λe=>by simp_all[St.bX,br]
   simp[St.bX,aM _ _ (bI DE),bg] at l;obtain⟨WJ,Wo,_⟩:=l;rcases gO.1 F with F|⟨u,hu,F⟩
   .exact O.apart _ q _ _ V Wo (bI H) z (by grind[gO]) LB
   .rcases kL hu with hu|rfl
    .exact O.apart _ q _ _ V Wo (bI H) z (by grind[gO]) LB
    .exact O.apart j q _ _ D Wo (bI DE) z (.inl F) LB
 grind
def EW {o:Oper} {x:Operand} {id d:Nat} (q:Rel N w0 μ0 L μ loc st a w) (hd:d<N) (z:o.dst=some d) (ho:o.op= .assign x) (hx:aN P o.type st x=some (.row id)) (h:Kt st id d=some st') (V:jX N w0 μ0 L st' K):o.qo P a w K Q:=by
 unfold Kt at h;split at h
 .rename_i e sz xs l;cases B:Nat.beq _ d with
  |true=>rw[B] at h;simp at h;subst h;have:=beq_iff.1 B;subst this;have S :=(aG q hx).trans (fS (q.obs _ _ l));refine eW (v:=loc id) (w':=w) (by simp_all[execOp]) ?_;rw[z];exact V _ _ _ _ (q.set (λi hi=>by simp_all) ((fS (q.obs _ _ l)).symm))
  |false=>
  rw[B] at h;cases W:Nat.blt id 10000 with
  |false=>simp_all
  |true=>
   rw[W] at h;simp at h;subst h;have I :=bA.mp W;have H :=dH hd q.small;have S :=(aG q hx).trans (fS (q.obs _ _ l));obtain⟨vs,hown,R,hm⟩:=q.obs _ _ l;have D:=fS (q.obs _ _ l);refine eW (v:=loc id) (w':=w) (by simp_all[execOp]) ?_;rw[z]
   have r1:=(q.AY id).new (o:= .row e _ _) (.inl H) (by
     refine⟨vs,by rw[bu];omega,R,λg G=> ?_⟩;rw[bu] at G;obtain⟨U,m2⟩:=hm g G;rcases U with U|⟨v,hv,_⟩
     .exact⟨.inl U,m2⟩
     .rw[q.names _ I] at hv;grind) (λj oj hj hjd g G=>by
     by_cases F:id=j
     .simp_all[St.bX,br]
     .simp[St.bX,aM _ _ F,bg] at hj;obtain⟨WJ,O,_⟩:=hj
      exact q.apart _ j _ _ l O F g G)
   exact V _ _ _ _ (r1.set (λi hi=>by simp_all) (Cj D))
 grind
def Mx {o:Oper} {t:TypeId} {m k:Operand} {d:Nat} (hR:Rel N w0 μ0 L μ loc st a w) (hd:d<N) (uC:o.dst=some d) (ho:o.op= .lookup t m k false) (h:DO P st t m k d=some st') (hK:jX N w0 μ0 L st' K):o.qo P a w K Q:=by
 unfold DO at h;split at h
 .rename_i et id key k' e sz ks vs hmk;obtain⟨kt,hu,hm,hk,S,U,hid⟩:=u9 hmk;cases hdd:Nat.beq id d with
  |true=>rw[hdd] at h;cases h
  |false=>
  simp only[hdd,aj] at h;have hne:id≠d:=λe=>by simp_all
  obtain⟨b,W,clock,us,hl,hown,hh,uq,h1,h2,h3,h4,h5,h6⟩:=hR.obs id _ S;have BP:a.eval m= .map (some b):=by
   have:a.eval m=dO (loc id):=aG hR hm
   rw[this,hl];rfl
  have R:=dD hR hk;have hd':d<10000:=dH hd hR.small;split at h
  .rename_i i hf;have hfk:=kN R U h1 hf w;obtain⟨ent,he,hrun,_⟩:=hfk;split at h
   .rename_i xs hvi;injection h with h;subst h;obtain⟨u,cells,k1,k2,k3,k4,k5⟩:=h4 i xs hvi;have hval:u=ent.val:=by
     have he':W[i]? =some ent:=by simpa using he
     simp[he'] at k2;exact k2.symm
    refine eW (v:=ent.val) (w':=w) (by
     unfold execOp;rw[ho]
     simp[BP,Instr.lookup,aU hu,fA hh,fT R U,hrun]) ?_
    rw[uC,<-hval];have hil:i<us.length:=(bp.1 k1).1
    have r1:=hR.L2 (id:=id) (o':= .mr k' e sz ks (vs.set i none)) (val:= .tuple (.map (some b)::us.set i undef).toArray) (g:=b) (w':=w) S hl (by rw[hl];rfl) hid (by rw[hl];exact kP.2 (.inl rfl)) (λ_ _=>rfl) rfl rfl rfl rfl (by
      refine⟨b,W,clock,us.set i undef,bu _ _ _,hown,hh,uq,h1,by simp[h2],by simp[h3],λq ys V=> ?_,λq V=> ?_,λq q' x y hx hy S5 g B=> ?_⟩
      .have l:q≠i:=λe=>by subst e;simp[oN] at V
       rw[fo (bI l)] at V;obtain⟨u',I,m1,m2⟩:=h4 q ys V;exact⟨u',I,by rw[fo (bI l)];exact m1,m2⟩
      .by_cases l:q=i
       .subst l;simp[oN,hil]
       .rw[fo (bI l)] at V;rw[fo (bI l)];exact h5 q V
      .have W7:∀(q:Nat) (z:Value),(us.set i undef)[q]? =some z->∀g,aP z=some g->us[q]? =some z:=λq z F g B=>by
        by_cases l:q=i
        .rw[l,ji hil] at F;injection F with F;subst F;simp[undef,aP] at B
        .rwa[fo (bI l)] at F
       intro G
       exact h6 q q' x y (W7 q x hx g B) (W7 q' y hy g G) S5 g B G) (λj oj hj D q V=>by
      refine λDE=>hR.apart id j _ oj S hj (bI D) q ?_ DE
      rw[hl];rcases kP.1 V with rfl|⟨z,F,LB⟩
      .exact kP.2 (.inl rfl)
      .rcases kL F with F|rfl
       .exact kP.2 (.inr ⟨z,F,LB⟩)
       .simp[undef,aP] at LB)
    have z1:dO u=u:=by rcases k3.2 with⟨O,_⟩|⟨g,cap,cur,O,_⟩<;>rw[O]<;>rfl
    have hin:∀g,gE u g->aP u=some g:=λg B=>by rcases k3.2 with⟨O,_⟩|⟨g',cap,cur,O,_⟩<;>rw[O] at B⊢<;>exact fz.1 B
    have r2:=(r1 (Tb hl)).new (id:=d) (val:=u) (o:= .row e sz xs) (.inl hd') (by
      refine⟨cells,by rw[bu];omega,k4,λg B=> ?_⟩;rw[bu] at B;obtain⟨m1,m2⟩:=k5 g (hin g B)
      exact⟨.inl m1,m2⟩) (λj oj hj hjd g B=>by
      have H:=hin g B;by_cases D:id=j
      .subst D;rw[bu];intro hb;rcases kP.1 hb with rfl|⟨z,F,LB⟩
       ·
        rcases k3.2 with⟨O,_⟩|⟨g',cap,cur,O,_,G,_⟩
        .rw[O] at H;simp[aP] at H
        .rw[O] at H;simp[aP] at H;subst H;rw[hh] at G;cases G
       .obtain⟨q,V,eq⟩:=uN.1 F;have Wo:(us.set i undef)[q]? =some z:=by grind
        by_cases l:q=i
        .grind[undef,aP]
        grind
      .simp only[aM _ _ D] at hj;rw[bB _ _ (bI D)]
       exact hR.apart id j _ oj S hj D g (by grind[kP]))
    exact hK _ _ _ _ (r2.set (λi hi=>by injection hi with hi;omega) (Cj z1))
   grind
  .rename_i hf;split at h
   .rename_i s0 e' s F hs;split at h
    .injection h with h;subst h;have hfk:=kN R U h1 hf w;have hzr:=IZ F w
     refine eW (v:= .slice none 0 0) (w':=w) (by
      unfold execOp;rw[ho]
      simp[BP,Instr.lookup,aU hu,fA hh,fT R U,hfk,hzr]) ?_
     rw[uC];refine hK _ _ _ _ ((hR.new (.inl hd') ?_ (λj oj hj hne g B=>by simp[gE,aP] at B)).set (λi hi=>by simp_all) (Cj rfl));refine⟨[],⟨ah, .inl ⟨bu _ _ _,rfl⟩⟩,rfl,λg B=> ?_⟩;simp_all[bu,gE,aP]
    grind
   grind
  grind
 grind
def Lm {o:Oper} {t kt et:TypeId} {m k x:Operand} {id:Nat} {key:AV} {k' e:TypeId} {sz:Nat} {ks ks':List AV} {vs vs':List (Option (List (List AV)))} {xs:List (List AV)} {cells:List Value}
  (hR:Rel N w0 μ0 L μ loc st a w) (uC:o.dst=none) (ho:o.op= .mapUpdate t m k x\/o.op= .insert t m k x) (G:P.underlying t=some (.map kt et)) (BP:a.eval m=dO (loc id)) (hkr:rep μ key (a.eval k)) (hok:gF P kt key=true)
  (S:st.ob id=some (.mr k' e sz ks vs)) (hid:id<10000) (D:xg key (some xs) ks vs=some (ks',vs')) (U:w.ownsRow 0 e sz (a.eval x) xs.length cells) (hrc:bS μ sz xs cells)
  (hg:∀g,aP (a.eval x)=some g->w0.heap.size<=g/\∀j,μ g j=none) (I:∀j oj,st.ob j=some oj->∀g,aP (a.eval x)=some g->¬gE (loc j) g)
  (hK:jX N w0 μ0 L { st with ob:=put st.ob id (some (.mr k' e sz ks' vs')) } K):o.qo P a w K Q:=by
 obtain⟨b,j7,clock,us,hl,hown,hh,uq,h1,h2,h3,h4,h5,h6⟩:=hR.obs id _ S;have hmv':a.eval m= .map (some b):=by rw[BP,hl];rfl
 cases hf:lR key ks with
 |none=>simp[xg,hf] at D
 |some r=>
 obtain⟨B,l,hrun,q1,q2,_⟩:=wH (x:=a.eval x) G hh hkr hok h1 hf;have hlt:=(cO.1 hh).1;have z1:∀g,gE (a.eval x) g->aP (a.eval x)=some g:=λg hg=>by rcases U.2 with⟨H,_⟩|⟨g',cap,cur,H,_⟩<;>rw[H] at hg⊢<;>exact fz.1 hg
 have MN:aP (a.eval x)≠some b:=λe=>by
  rcases U.2 with⟨H,_⟩|⟨g',cap,cur,H,_,O,_⟩
  .rw[H] at e;simp[aP] at e
  .rw[H] at e;simp[aP] at e;subst e;rw[hh] at O;cases O
 have hnu:∀u∈us,∀g,aP u=some g->aP (a.eval x)≠some g:=λu G g F hgx=>I id _ S g hgx (by rw[hl];exact kP.2 (.inr ⟨u,G,F⟩))
 have other:∀(u:Value) (cs:List Value) (ys:List (List AV)),w.ownsRow 0 e sz u ys.length cs->aP u≠some b->World.ownsRow { w with heap:=w.heap.setIfInBounds b (.map B l) } 0 e sz u ys.length cs:=λu cs ys G hub=>
  jo G (λg hg=>by
   have:b≠g:=λe=>hub (by rw[e];exact hg)
   simp only[];rw[qW this])
 have hub:∀u∈us,aP u≠some b:=λu G e=>by
  obtain⟨i,ys,m1,m2⟩:=Kw h2 h5 G e;obtain⟨u',cells',n1,n2,n3,_⟩:=h4 i ys m1;rw[m2] at n1;injection n1 with n1;subst n1;rcases n3.2 with⟨H,_⟩|⟨g',cap,cur,H,_,O,_⟩
  .rw[H] at e;simp[aP] at e
  .rw[H] at e;simp[aP] at e;subst e;rw[hh] at O;cases O
 have fin:∀us',(∀u∈us',u∈us\/u=a.eval x)->jC w0.heap.size L μ (nZ loc id (.tuple (.map (some b)::us').toArray)) { w with heap:=w.heap.setIfInBounds b (.map B l) } id (.mr k' e sz ks' vs')->o.qo P a w K Q:=λus' wD AI=>by
  have r1:=hR.L2 (id:=id) (val:= .tuple (.map (some b)::us').toArray) (g:=b) (w':={ w with heap:=w.heap.setIfInBounds b (.map B l) }) S hl (by rw[hl];rfl) hid (by rw[hl];exact kP.2 (.inl rfl))
   (λb' hb'=>by simp only[];rw[qW (λe=>hb' e.symm)]) rfl rfl rfl ah AI (λj oj hj hji q hq=>by
    rcases kP.1 hq with rfl|⟨z,W,LB⟩
    .exact λDE=>hR.apart id j _ oj S hj (bI hji) q (by rw[hl];exact kP.2 (.inl rfl)) DE
    .rcases wD z W with W|rfl
     .exact λDE=>hR.apart id j _ oj S hj (bI hji) q (by rw[hl];exact kP.2 (.inr ⟨z,W,LB⟩)) DE
     .exact I j oj hj q LB)
  have:((execOp a.eval o).run P w)= .ok .skip { w with heap:=w.heap.setIfInBounds b (.map B l) }:=by unfold execOp;rcases ho with ho|ho<;>rw[ho]<;>simp[hmv',hrun]
  exact yX this (by rw[uC];exact hK _ _ _ _ (r1 (Tb hl)))
 cases r with
 |none=>
  simp only[xg,hf,aB,aQ] at D;obtain⟨rfl,rfl⟩:=D;obtain⟨c1,c2⟩:=q1 rfl;have V:B.size=j7.size+1:=by have:=aC List.length c2;simpa using this
  refine fin (us++[a.eval x]) (λu G=>by simpa using G) ⟨b,B,l,us++[a.eval x],bu _ _ _,hown,by simp[hlt],uq,c1,by simp[h2],by simp[V,h3],λi ys hi=> ?_,λi hi=> ?_,λi j u v G hv hij g F R=> ?_⟩
  .by_cases hil:i<vs.length
   .rw[c7 hil] at hi;obtain⟨u,cs,n1,n2,n3,n4,n5⟩:=h4 i ys hi;exact⟨u,cs,by rw[c7 af];exact n1,by rw[c2,c7 aX];exact n2,other u cs ys n3 (hub u (aS n1)),n4,n5⟩
   .rw[fc af] at hi;have hi0:i-vs.length=0:=by
     have:=(bp.1 hi).1;simp at this;omega
    rw[hi0] at hi;simp at hi;subst hi;refine⟨_,_,?_,?_,other _ _ _ U MN,hrc,hg⟩
    .rw[fc af,h2,hi0];rfl
    .rw[c2,fc aX];simp[h3,hi0]
  .grind
  .have split:∀q z,(us++[a.eval x])[q]? =some z->(us[q]? =some z)\/(q=us.length/\z=a.eval x):=λq z W=>by
    by_cases hq:q<us.length
    .rw[c7 hq] at W;exact .inl W
    .rw[fc af] at W;have h0 :=by
      have:=(bp.1 W).1;simp at this;omega
     rw[h0] at W;simp at W;exact .inr ⟨af,W.symm⟩
   rcases split i u G with OT|⟨H,e2⟩<;>rcases split j v hv with Wu|⟨e3,e4⟩
   .exact h6 i j u v OT Wu hij g F R
   .rw[e4] at R;exact hnu u (aS OT) g F R
   .rw[e2] at F;exact hnu v (aS Wu) g R F
   .exact hij (H.trans e3.symm)
 |some p=>
  simp[xg,hf] at D;obtain⟨rfl,rfl⟩:=D;obtain⟨c1,c2,LA⟩:=q2 p rfl;have V :=by have:=aC List.length c2;simpa using this
  refine fin (us.set p _) (λu G=>kL G) ⟨b,_,l,_,bu _ _ _,hown,by simp[hlt],uq,c1,by simp[h2],by grind,λi ys hi=> ?_,λi hi=> ?_,λi j u v G hv hij g F R=> ?_⟩
  .grind
  .grind
  grind
def G8 {o:Oper} {t:TypeId} {m k x:Operand} (z:Rel N w0 μ0 L μ loc st a w) (B:o.dst=none) (ho:o.op= .mapUpdate t m k x\/o.op= .insert t m k x) (h:Ku P st t m k x=some st') (hK:jX N w0 μ0 L st' K):o.qo P a w K Q:=by
 unfold Ku at h;split at h
 .rename_i et id key k' e sz ks vs hmk;obtain⟨kt,hu,hm,hk,O,S,G⟩:=u9 hmk;have I :=aG z hm;have H:=dD z hk;split at h
  .split at h
   .split at h
    .split at h
     .rename_i ks' vs' q;injection h with h;subst h;have hx:a.eval (.const (.slice none 0 0))= .slice _ 0 0:=rfl;exact Lm z B ho hu I H S O G q (by(constructor<;>grind)) rfl (λg F=>by simp_all[aP]) (λj oj _ g F=>by simp_all[aP]) hK
     grind
    grind
   grind
  .split at h
   .rename_i j hx;split at h
    .rename_i e' s xs l;split at h
     .rename_i D;obtain⟨rfl,rfl,hj⟩:=D;split at h
      .rename_i ks' vs' q;injection h with h;subst h;have hne:id≠j:=λe=>by simp_all
       have U :=(aG z hx).trans (fS (z.obs j _ l));obtain⟨cells,hrow,hrc,V⟩:=z.obs j _ l;have R:(st.bX j).ob id=some (.mr k' e s ks vs):=by simp[St.bX,aM _ _ (bI hne),O,Ob.bX]
       refine Lm (z.AY j) B ho hu I H S R G q (by simp_all) hrc (λg F=> ?_) (λi oi hi g F=> ?_) hK
       .rw[U] at F;obtain⟨m1,m2⟩:=V g (.inl F);rcases m1 with m1|⟨v,hv,_⟩
        .simp_all
        .rw[z.names j hj] at hv;grind
       .rw[U] at F;by_cases e:j=i
        .simp_all[St.bX,br]
        .simp[St.bX,aM _ _ e,bg] at hi;obtain⟨oi',W,_⟩:=hi;exact z.apart j i _ _ l W e g (.inl F)
      grind
     grind
    grind
   grind
 grind
def JH {o:Oper} {t k e z:TypeId} {s:Nat} {r:Option Operand} {d:Nat} (l:Rel N w0 μ0 L μ loc st a w) (H:d<N) (q:o.dst=some d) (W:o.op= .makeMap t r) (U:P.underlying t=some (.map k e))
  (S:qu P st r=true) (F:jX N w0 μ0 L ((st.new d (.mr k z s [] [])).set (some d) (.row d)) K):o.qo P a w K Q:=by
 have B:=Ac l U S;refine eW (v:= .map (some w.heap.size)) (w':=w.alloc (.map #[] 0)) (by simp_all[execOp]) ?_;rw[q];have D:=(l.HB (mJ w (.map #[] 0))).new (o:= .mr k z s [] []) (.inl (dH H l.small))
  ⟨_, #[],0,[],bu _ _ _,l.grown,(by show(w.heap.push _)[w.heap.size]? =_;simp),qJ l _ (aJ _),by rfl,rfl,rfl,by simp,by simp,ah⟩ (λj oj O R g I=>by
  rcases kP.1 I with rfl|⟨u,hu,_⟩
  .intro G;have:=((l.obs j _ O).block _ G).2.1;omega
  simp_all)
 exact F _ _ _ _ (D.set (λi V=>by simp_all) (by show _=dO _;rw[bu];rfl))
def Mz {o:Oper} {t:TypeId} {x:Operand} {d:Nat} {s:List UInt8} (q:Rel N w0 μ0 L μ loc st a w) (B:d<N) (l:o.dst=some d) (H:o.op= .range t x) (I:P.underlying t=some .string) (G:(aN P t st x).bind fP =some (.str s))
  (z:jX N w0 μ0 L ((st.new d (.it s 0)).set (some d) (.ptr d 0)) K):o.qo P a w K Q:=by
 have F:=dD q G;rw[rep] at F;refine eW (v:= .pointer (some ⟨w.heap.size,0,none⟩)) (w':=w.alloc (.stringIter ⟨s.toArray⟩ 0)) (by simp_all[execOp,Instr.range,aU]) ?_;rw[l];refine z _ _ _ _ (q.made B (λg D=>mq.1 D) ?_ ?_)
 .exact⟨_,bu _ _ _, .inl q.grown,(by show(w.heap.push _)[w.heap.size]? =_;simp),qJ q _ (aJ _)⟩
 .exact⟨_,bu _ _ _,rfl⟩
def Oo {o:Oper} {x:Operand} {d id pos:Nat} {s:List UInt8} (I:Rel N w0 μ0 L μ loc st a w) (hd:d<N) (l:o.dst=some d) (ho:o.op= .next x true) (hx:aN P 0 st x=some (.ptr id 0)) (D:st.ob id=some (.it s pos))
  (H:if pos<s.length then jX N w0 μ0 L (St.set { st with ob:=put st.ob id (some (.it s (pos+(Utf8.decode ⟨s.toArray⟩ pos).2))) } (some d) (.pv (.jy [.bool true, .int .i64 pos, .int .i32 (Utf8.decode ⟨s.toArray⟩ pos).1]))) K
   else jX N w0 μ0 L (st.set (some d) (.pv (.jy [.bool false]))) K):o.qo P a w K Q:=by
 obtain⟨b0,z,hv⟩:=aG I hx;obtain⟨b,U,F,S,W⟩:=I.obs id _ D;rw[U] at z;simp only[uJ,aB,uK,dL] at z;subst z;have G:(⟨s.toArray⟩:ByteArray).size=s.length:=by simp[ByteArray.size]
 have V:=(cO.1 S).1;have q:(getObj b).run P w= .ok (.stringIter ⟨s.toArray⟩ pos) w:=by simp[getObj,Sem.run,S]
 by_cases O:pos<s.length
 .rw[ak O] at H
  refine eW (v:= .tuple #[.bool true, .int .i64 pos, .int .i32 (Utf8.decode ⟨s.toArray⟩ pos).1]) (w':={ w with heap:=w.heap.setIfInBounds b (.stringIter ⟨s.toArray⟩ (pos+(Utf8.decode ⟨s.toArray⟩ pos).2)) }) (by
   unfold execOp;rw[ho];simp[Instr.next,hv,q,G,O,goInt]
   simp[setObj,Sem.run,S]) ?_
  rw[l];have r1:=I.write D (o':= .it s (pos+(Utf8.decode ⟨s.toArray⟩ pos).2)) (g:=b) (by rw[U];exact mq.2 rfl) (w':={ w with heap:=w.heap.setIfInBounds b (.stringIter ⟨s.toArray⟩ (pos+(Utf8.decode ⟨s.toArray⟩ pos).2)) }) (λb' R=>by simp only[];rw[qW (λe=>R e.symm)]) rfl rfl rfl ah ⟨b,U,F,by simp[V],W⟩;refine H _ _ _ _ (r1.set (λi B=>by injection B with B;omega) ?_);show rep μ (.jy _) _;rw[rep];exact⟨[.bool true, .int .i64 pos, .int .i32 (Utf8.decode ⟨s.toArray⟩ pos).1],rfl,bq (by simp[rep]) (bq (by simp[rep]) (bq (by simp[rep]) cF))⟩
 .rw[az O] at H
  refine eW (v:= .tuple #[.bool false]) (w':=w) (by
   unfold execOp;rw[ho]
   simp[Instr.next,hv,q,G,O]) ?_
  rw[l];refine H _ _ _ _ (I.set (λi B=>by injection B with B;omega) ?_);show rep μ (.jy _) _;rw[rep];exact⟨[.bool false],rfl,bq (by simp[rep]) cF⟩
end
