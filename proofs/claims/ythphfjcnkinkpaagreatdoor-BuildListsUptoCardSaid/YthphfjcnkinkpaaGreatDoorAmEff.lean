/- THE ABSTRACT MACHINE. -/
import Derived.Test.YthphfjcnkinkpaaGreatDoorAmStep
set_option linter.all false
open List (replicate)
namespace Go.AM
open Go.RowKit
section
variable {μ μ':Mu} {loc:Nat->Value}
theorem Be {D b:Nat} {xs:List (List AV)} {z:List Value} {l:Nat} (h:cV μ D xs z) (q:μ.le μ') (H:∀j u,z[j]? =some u->μ' b (l+j)=some u):lE μ' D b xs l:=by induction xs generalizing z l with
 |nil=>simp[lE]
 |cons x xs O=>
  obtain⟨R,ws,rfl,B,F,G⟩:=h;refine⟨⟨R,(B.mono q).1,B.2,F,λj u I=>H j u ?_⟩,O G λj u I=> ?_⟩
  .grind
  simp_all[fP,gE]
def ow {q:Nat} {xs B:List (List AV)} {l z:List Value} (h:cV μ q xs l) (k:cV μ q B z):cV μ q (xs++B) (l++z):=by induction xs generalizing l with
 |nil=>have:l=[]:=h;simp_all
 |cons x xs H=>obtain⟨a,b,rfl,D,F,G⟩:=h;exact⟨a,_,by simp,D,F,H G⟩
def qR {sz:Nat} {z:List AV} {l:List Value} (h:lD μ z l) (q:l.length=sz):∀n,cV μ sz (replicate n z) (replicate n l).flatten
 |0=>rfl
 |n+1=>⟨l,_,by rfl,h,q,qR h q n⟩
def Bf {z:Nat}:∀(n:Nat) {l:List AV} {q:List Value},lD μ l q->l.length=n *z->cV μ z (chunks z n l) q
 |0,l,q,h,B=>by have :=lS (by rw[h.length];omega);assumption
 |n+1,l,q,h,B=>by rw[jQ] at B;have D:=h.length;exact⟨_,_,by simp,h.take _,by simp;omega,Bf n (h.drop _) aH⟩
def FO {z:List AV} {l:List Value} (h:lD μ z l):∀n,lD μ (tV z n) (replicate n l).flatten
 |0=>⟨dR,ai⟩
 |n+1=>by simpa[tV,oR] using h.append (FO h n)
theorem Bc (z:List AV):∀n,(tV z n).length=n *z.length
 |0=>by simp[tV]
 |n+1=>by simp[tV,Bc z n,jQ];omega
def Dp (q:Nat):∀(n:Nat) (l:List AV),(chunks q n l).length=n
 |0,_=>rfl
 |n+1,l=>by simp[chunks,Dp _ n]
def iK {id:Nat} {s:SV} {v:Value} (k:fQ μ loc s v):fQ μ loc (s.dG id) v:=by unfold SV.dG;cases s.mentions _ with
 |true=>trivial
 |false=>exact k
def P7 {id:Nat} {s:SV} {v:Value} {x:AV} (k:fQ μ loc s v) (D:rep μ x (fW (loc id))):fQ μ loc (s.dr id x) v:=by cases s with
 |row j=>cases h:Nat.beq j id with
  |true=>simp[SV.dr,h];have:=beq_iff.1 h;subst this;have e :=k;rw[e];exact D
  |false=>simp_all[SV.dr]
 |ag q=>
  by_cases l:∃j,q=[.r j]
  .obtain⟨j,rfl⟩:=l;cases h:Nat.beq j id with
   |true=>simp only[SV.dr,h,au];have:=beq_iff.1 h;subst this;obtain⟨H,e,⟨u,G,F,B,z⟩,l⟩:=k;have z:G=[]:=z;subst z F;have B:u=fW (loc j):=B;exact⟨[u],e,cQ (B▸D) dR,l⟩
   |false=>simpa only[SV.dr,h,aA] using k
  .have:(SV.ag q).dr id x=(SV.ag q).dG id:=by
    unfold SV.dr;split
    .rename_i e;cases e
    .rename_i j e;cases e;exact absurd ⟨j,rfl⟩ l
    .rfl
   rw[this];exact iK k
 |_=>exact iK k
def rowS' {id:Nat} {v u:Value} (h:fW v=u):fQ μ (rF loc id v) (.row id) u:=by show u=fW _;rw[dc,h]
theorem Qa {id:Nat} {v:Value} (h:fW v=v):fQ μ (rF loc id v) (.row id) v:=by show v=fW _;rw[dc,h]
theorem vw (l:Array Value) (s:Nat) (F:l.size=s) (D:0<s) (n:Nat):(madeCells l (n *s)).toList=(replicate n l.toList).flatten:=by
 have key:∀n,(List.range (n *s)).map (λi=>l[i % s]!)=(replicate n l.toList).flatten:=by intro n;induction n with
  |zero=>simp
  |succ n G=>
   rw[mY,jS,wY];have q:(List.range s).map (λi=>l[i % s]!)=l.toList:=by
    apply kK;intro i;by_cases B:i<s
    .simp_all[Nat.mod_eq_of_lt]
    .simp_all
   have z:((λi=>l[i % s]!)∘λx=>s+x)=λi=>l[i % s]! :=by funext i;simp
   grind
 simp_all[madeCells]
theorem Rp (q:List Value) {l c:Nat} (h:l<=c):(replicate c q).flatten.take (l *q.length)=(replicate l q).flatten:=by obtain⟨d,rfl⟩:=Nat.exists_eq_add_of_le h;rw[<-List.replicate_append_replicate,List.flatten_append];simp_all[iG]
end
section
variable {P:Program} {N:Nat} {w0:World} {μ0:Mu} {L:s7} {μ:Mu} {loc:Nat->Value} {st st':St} {a:Act} {w:World} {Q:Exit->Act->World->Prop} {K:Act->World->Prop}
theorem FP {e G:Nat} {xs:List (List AV)} {u:Value} {cells:List Value} (l:w.ownsRow 0 e G u xs.length cells) (z:cV μ G xs cells) {μ':Mu} (D:μ.le μ')
  (R:∀b j v,cu u=some b->Ii w b j=some v->μ' b j=some v):rep μ' (.dD G xs) u:=by
 have q:=kI z;rw[rep];rcases l.2 with⟨e1,S⟩|⟨g,I,O,e1,_,U,F,B,_⟩
 .grind
 .refine⟨_,_,e1,F,B, .inr ⟨g,0,rfl,Be z D λj u H=> ?_⟩⟩;have:=l.cells (by rw[e1];rfl) j u H;rw[add_lit] at this;exact R g _ u (by rw[e1];rfl) (xL this (q u (aV H)))
def Hx {z:Type}:∀{q:List (Option z)} {l:List z},qD q=some l->q=l.map some
 |[],l,h=>by simp_all[qD]
 |none::q,l,h=>by simp[qD] at h
 |some x::q,l,h=>by simp[qD,cL] at h;obtain⟨D,B,rfl⟩:=h;simp[Hx B]
def Lj {l:List AV}:∀{k:Nat} {q:List Value} {u:Value} {a:AV},cN μ l q->q[k]? =some u->rep μ a u->cN μ (l.set k a) q:=by induction l with
 |nil=>simp_all
 |cons c l H=>intro k q u a h D B;obtain⟨v,F,rfl,G,z⟩:=h;cases k with
  |zero=>simp at D;subst D;exact⟨v,F,rfl,B,z⟩
  |succ k=>exact⟨v,F,rfl,G,H z (by assumption) B⟩
def Bg {k F D:Nat} {μ':Mu} (B:μ.le μ') (S:k<F):∀{xs:List (List AV)} {l:List (List (List AV))} {z:List Value},cV μ F xs z->xs.length=l.length->
  (∀(i:Nat) G,l[i]? =some G->∃u,z[i *F+k]? =some u/\rep μ' (.dD D G) u)->cV μ' F (wP k D xs l) z
 |[],[],z,h,_,_=>h
 |[],_::_,z,_,h,_=>by simp at h
 |_::_,[],z,_,h,_=>by simp at h
 |x::xs,y::l,z,⟨us,ws,e,H,O,R⟩,hl,q=>by subst e;obtain⟨u,I,U⟩:=q 0 y ai;rw[By,eF,eU af] at I;refine⟨us,ws,rfl,⟨Lj (gy B _ _ H.1) I U,H.2⟩,O,Bg B S R (by simp_all) λi G hi=> ?_⟩;obtain⟨u2,hu2,V⟩:=q (i+1) _ (by assumption);grind
def DJ {k q:Nat}:∀{xs:List (List AV)} {l:List (List (List AV))},xs.length=l.length->(wP k q xs l).length=xs.length
 |[],[],_=>rfl
 |[],_::_,h=>by simp at h
 |_::_,[],h=>by simp at h
 |x::xs,y::l,h=>by simp[wP,DJ (xs:=xs) (l:=l) (by simp_all)]
def Rv {n0:Nat} {id:Nat} {o:Ob} {v:AV} (h:nU n0 L μ loc w id o) (B:o.val=some v) {μ':Mu} (q:μ.le μ')
  (O:∀b j v,mE (loc id) b->Ii w b j=some v->μ' b j=some v):rep μ' v (fW (loc id)):=by
 cases o with
 |box t cells=>simp[Ob.val] at B
 |lp s=>simp[Ob.val] at B
 |row e sz xs=>simp only[Ob.val,bg] at B;subst B;rw[jC h];obtain⟨vs,z,D,_⟩:=h;exact FP z D q (λb j v S=>O b j v (.inl S))
 |mp k e ks es=>simp only[Ob.val,bg] at B;subst B;rw[Xf h];obtain⟨b,eL,H,G,_,hh,_,U,R,_⟩:=h;rw[rep,G];exact .inr ⟨b,_,_,rfl,gy q _ _ U,gy q _ _ R,O b 0 _ (by rw[G];exact Ah.2 rfl) (WN hh)⟩
 |rn e sz k e' sz' xs ys=>
  simp[Ob.val,cL] at B;obtain⟨l,I,rfl⟩:=B;obtain⟨m,us,vs,G,_,z,D,hk,R,h3,V,h5,h6,h7⟩:=h;have hvs:=Hx I;have F:xs.length=l.length:=by simp_all
  rw[G];show rep _ _ m;refine FP (by rw[DJ F];omega) (Bg q hk.1 D F λi zs hi=> ?_) (Mu.le.refl _) λb j v S hs=>O b j v (by simp_all[j8]) hs
  obtain⟨u,cells,k1,k2,k3,k4,k5⟩:=V i zs (by simp_all);grind[FP,j8]
open Classical in
noncomputable def sw (w:World) (loc:Nat->Value) (id:Nat) (μ:Mu):Mu:=λb j=>if mE (loc id) b then Ii w b j else μ b j
def Rel.ad1 (B:Rel N w0 μ0 L μ loc st a w) {id:Nat} {o:Ob} (H:st.ob id=some o) (hlt:id<10000) (f:SV->SV) (g:Ob->Ob) (hf:∀s v,fQ (sw w loc id μ) loc s v->fQ (sw w loc id μ) loc (f s) v)
  (hg:∀ob,g ob=match ob with| .box t cells=> .box t (cells.map f)|o=>o):
  μ.le (sw w loc id μ)/\Rel N w0 μ0 L (sw w loc id μ) loc { env:=λi=>(st.env i).map f,ob:=put (λi=>(st.ob i).map g) id none } a w:=by
 have I:=B.obs _ _ H;have hfs:∀(F) (R),gT (sw w loc id μ) loc F R->gT (sw w loc id μ) loc (F.map f) R:=by intro F;induction F with
  |nil=>simp
  |cons c F ih=>rintro R ⟨u,us,e,l,h2⟩;exact⟨u,us,e,hf _ _ l,ih _ h2⟩
 have G:μ.le (sw w loc id _):=λb j v D=>by
  by_cases z:mE (loc id) b
  .have:=(I.block b z).2.2 j;simp_all
  .simpa[sw,z] using D
 have S:∀i O,i≠id->st.ob i=some O->∀b,mE _ b->∀j,sw w loc id _ b j=none:=λi O hne q b z j=>by
  have hn :=λhid=>B.apart _ i _ _ H q (λe=>hne e.symm) b hid z
  simp[sw,az hn];exact(B.obs i _ q).block b z|>.2.2 j
 have l:=(B.drop id).world G (λb j v D=>by
   by_cases z:mE (loc id) b
   .exact .inr (B.D9 hlt (I.block b z).1)
   simp_all[sw]) (λb j v D=>by
   by_cases z:mE (loc id) b
   .simpa[sw,z] using D
   .exact B.yz b j v (by simpa[sw,z] using D)) (λi O q b z=>by
   grind[cW,bS]) (λ_ _ _=>rfl) rfl rfl rfl (aR _)
 refine⟨G,l.small,l.names,l.fix,l.size,l.defers,?_,l.yz,l.base,?_,?_,l.keep,l.os,l.tape,l.output,l.grown,l.drawn⟩
 .intro i s q;cases he:st.env i with
  |none=>simp_all
  |some s'=>simp[he] at q;subst q;obtain⟨v,D,hr⟩:=l.env i _ he;simp_all
 .intro i O q;by_cases U:id=i
  .simp_all[cW]
  .simp[bS _ _ U] at q;cases ho:st.ob i with
   |none=>simp_all
   |some oj=>simp[ho] at q;subst q;have k:=l.obs i oj (by simp_all[bS]);rw[hg];cases oj with
    |box t cells=>obtain⟨b,R,hl,ho',hh,hm,hs,V⟩:=k;exact⟨b,R,hl,ho',hh,hm,hfs _ _ hs,V⟩
    |row e2 sz2 xs2=>exact k
    |mp k2 e2 ks2 vs2=>exact k
    |lp s2=>exact k
    |rn e2 s2 k2 e3 s3 x2 y2=>exact k
 .intro i j O oj q hj hij;have get:∀k ok,put (λi=>(st.ob i).map g) id none k=some ok->∃ok',st.ob k=some ok':=λk ok hk=>by
   by_cases U:id=k
   .simp_all
   .simp[bS _ _ U] at hk;cases ho:st.ob k with
    |none=>simp_all
    |some x=>simp
  obtain⟨oi',hi'⟩:=get i _ q;obtain⟨oj',hj'⟩:=get j _ hj;exact B.apart i j _ _ hi' hj' hij
def ad0 {id:Nat} (h:iC id=true):id<10000:=by simp_all[iC]
theorem Rel.dr (I:Rel N w0 μ0 L μ loc st a w) {id:Nat} (h:st.dr id=some st'):∃μ',μ.le μ'/\Rel N w0 μ0 L μ' loc st' a w:=by
 unfold St.dr at h;split at h
 .rename_i v G q;injection h with h;subst h;obtain⟨o,l,D⟩:=dy.1 q;have z:=I.obs _ _ l;have H:μ.le (sw w loc id _):=λb j v S=>by
   by_cases F:mE (loc id) b
   .have:=(z.block b F).2.2 j;simp_all
   .simpa[sw,F] using S
  have B :=Rv z D H λb j v F O=>by simpa[sw,F] using O
  exact⟨_,I.ad1 l (ad0 G) _ _ (λs u R=>P7 R B) (λU=>by rfl)⟩
 grind
theorem Rel.qx (F:Rel N w0 μ0 L μ loc st a w) {id:Nat} (h:st.qx id=some st'):∃μ',μ.le μ'/\Rel N w0 μ0 L μ' loc st' a w:=by
 unfold St.qx at h;split at h
 .rename_i t cells H z;split at h
  .rename_i cs G;injection h with h;subst h;obtain⟨b,vs,U,ho,hh,hm,l,S⟩:=F.obs _ _ z;have I:μ.le (sw w loc id μ):=λR j v hv=>by
    by_cases hb:mE (loc id) R
    .have:=((F.obs _ _ z).block _ hb).2.2 j;simp_all
    simp_all[AM.sw]
   have hc:lD _ _ _:=⟨gy I _ _ (Hw G l),S⟩
   refine⟨_,F.ad1 z (ad0 H) _ _ (λs u l=> ?_) (λob=>by rfl)⟩;cases s with
   |ptr j O=>simp[SV.qx];cases hj:Nat.beq j _ with
    |false=>exact l
    |true=>
     have:=beq_iff.1 hj;subst this;obtain⟨R,D,rfl⟩:=l;rw[U] at D;obtain⟨rfl,_⟩:=D;refine⟨b,_,_,rfl,hc.drop _,λk u V=> ?_⟩;rw[wW] at V;have e:mE (loc j) b:=by rw[U];exact Ff.2 rfl
     simp[AM.sw,aB e];exact xL (by rw[cell_of_row w b _ _ t _ hh];simp_all) (S u (aV V))
   |undef=>assumption
   |any=>assumption
   |pv x=>assumption
   |row j=>exact iK l
   |rp j sz i O=>exact iK l
   |sub j sz lo hi=>exact iK l
   |cp c=>assumption
   |cl f B=>exact iK l
   |ag B=>exact iK l
   |aq j q=>exact iK l
   |two s b=>exact iK l
   |three s b c=>exact iK l
  grind
 grind
def MK (S:Rel N w0 μ0 L μ loc st a w):∀{xs:List Operand} {st st':St} {μ:Mu},Rel N w0 μ0 L μ loc st a w->xI st xs=some st'->∃μ',μ.le μ'/\Rel N w0 μ0 L μ' loc st' a w:=by intro xs;induction xs with
 |nil=>grind[xI,Mu.le.refl]
 |cons x xs B=>intro st st' μ h l;cases x with
  |tmp i=>
   simp[xI] at l;split at l
   .rename_i id H U;cases G:st.qx id with
    |none=>simp_all
    |some I=>rw[G] at l;obtain⟨O,q,D⟩:=h.qx G;obtain⟨R,z,F⟩:=B D l;exact⟨_,q.trans z,F⟩
   grind
  |const v=>exact B h l
  |func f=>exact B h l
  |global g=>exact B h l
def Wd (F:Fence):Prop:=F.plain=Fence.wide
def Wd.fn {F:Fence} (h:Wd F) (f:FuncId):F.fn f:=by
 have:F.plain.fn=Fence.wide.fn:=aP _ h
 have:F.fn=Fence.wide.fn:=this
 rw[this];trivial
def Wd.depth {F:Fence} (h:Wd F):F.depth=none:=by
 have:F.plain.depth=Fence.wide.depth:=aP _ h
 exact this
def Wd.one {F:Fence} (h:Wd F) {p:Prop}:F.depth.isSome=true->p:=λe=>by rw[h.depth] at e;cases e
theorem Wd.plain {F:Fence} (h:Wd F) (l:F.round=none):F=Fence.wide:=by have:=h;unfold Wd Fence.plain at this;rw[<-l] at this;omega
def Wd.wide:Wd Fence.wide:=rfl
end
end Go.AM
namespace Go
def Oper.wU (P:Program) (o:Oper) (a:Act) (w:World) (K:Act->World->Prop) (Q:Exit->Act->World->Prop):Prop:=∀F,AM.Wd F->o.wpIn F 0 P a w K Q
end Go
namespace Go.AM
open Go.RowKit
section
variable {P:Program} {N:Nat} {w0:World} {μ0:Mu} {L:s7} {μ:Mu} {loc:Nat->Value} {st st':St} {a:Act} {w:World} {Q:Exit->Act->World->Prop} {K:Act->World->Prop}
def Mi {o:Oper} {x:Next} {w':World} (l:∀c,o.op≠ .defer c) (z:(execOp a.eval o).run P w= .ok x w') (h:∀F,Wd F->o.uponIn F 0 P a K Q (.ok x w')):o.wU P a w K Q:=λF q=>by unfold Oper.wpIn;rw[Oper.semAt_eq _ _ _ l,z];exact⟨λf _=>q.fn f,h F q⟩
def Mj {o:Oper} {w':World} (l:(execOp a.eval o).run P w= .ok .skip w') (q:K (a.put o.dst undef) w'):o.wU P a w K Q:=
 Mi (λc B=>by unfold execOp at l;cases D:(resolve a.eval c o.type).run P w with
  |ok d z=>simp_all
  |halt e z=>simp_all) l λ_ _=>q
def jg {o:Oper} {v:Value} {w':World} (l:(execOp a.eval o).run P w= .ok (.value v) w') (q:K (a.put o.dst v) w'):o.wU P a w K Q:=
 Mi (λc B=>by unfold execOp at l;cases D:(resolve a.eval c o.type).run P w with
  |ok d z=>simp_all
  |halt e z=>simp_all) l λ_ _=>q
def oP (N:Nat) (w0:World) (μ0:Mu) (L:s7) (st':St) (K:Act->World->Prop):Prop:=∀q z μ' l,Rel N w0 μ0 L μ' l st' q z->K q z
theorem qC (z:Rel N w0 μ0 L μ loc st a w) {o:Oper} {l:SV} (B:∀i,o.dst=some i->i<N) (D:oO P μ loc o l a w) (q:oP N w0 μ0 L (st.set o.dst l) K):o.wU P a w K Q:=by obtain⟨v,F,G⟩:=D;exact jg F (q _ _ _ _ (z.set B G))
def yf (l:Rel N w0 μ0 L μ loc st a w):∀b,w.heap.size<=b->∀j,μ b j=none:=λb z j=>by cases q:μ b j with
 |none=>rfl
 |some v=>have:=sK (l.yz b j v q);omega
def xo (w:World) (o:Obj):Below w.heap.size w (w.alloc o):=(gW _ _).alloc (aR _) o
def Rel.made (q:Rel N w0 μ0 L μ loc st a w) {d:Nat} (G:d<N) {x:Obj} {val:Value} {o:Ob} {B:SV} (l:∀g,mE val g->g=w.heap.size)
  (z:nU w0.heap.size L μ (rF loc d val) (w.alloc x) d o) (R:fQ μ (rF loc d val) B val):
  Rel N w0 μ0 L μ (rF loc d val) ((st.new d o).set (some d) B) (a.put (some d) val) (w.alloc x):=by
 have D:=(q.abO (xo w x)).new (.inl (fG G q.small)) z (λj U I O g H=>by
  have:=l g H;intro F;have:=((q.obs j _ I).block _ F).2.1
  omega)
 exact D.set (λi S=>by simp_all) R
def Rel.made' (q:Rel N w0 μ0 L μ loc st a w) {d:Nat} (G:d<N) {x:Obj} {val u:Value} {o:Ob} {B:SV} (l:∀g,mE val g->g=w.heap.size)
  (z:nU w0.heap.size L μ (rF loc d val) (w.alloc x) d o) (R:fQ μ (rF loc d val) B u):
  Rel N w0 μ0 L μ (rF loc d val) ((st.new d o).set (some d) B) (a.put (some d) u) (w.alloc x):=by
 have D:=(q.abO (xo w x)).new (.inl (fG G q.small)) z (λj U I O g H=>by
  have:=l g H;intro F;have:=((q.obs j _ I).block _ F).2.1
  omega)
 exact D.set (λi S=>by simp_all) R
def E0 {o:Oper} {t:TypeId} {d:Nat} {v:Value} {cells:List SV} (q:Rel N w0 μ0 L μ loc st a w) (D:d<N) (l:o.dst=some d)
  (F:(execOp a.eval o).run P w= .ok (.value (.pointer (some ⟨w.heap.size,0,none⟩))) (w.alloc (.cells v.cells t)))
  (G:gT μ (rF loc d (.pointer (some ⟨w.heap.size,0,none⟩))) cells v.cells.toList) (z:∀u∈v.cells.toList,u.oneCell'=true)
  (B:oP N w0 μ0 L ((st.new d (.box t cells)).set (some d) (.ptr d 0)) K):o.wU P a w K Q:=by
 refine jg F ?_;rw[l];refine B _ _ _ _ (q.made D (by simp[mE,cu]) ?_ ?_)
 .refine⟨_,_,dc _ _ _, .inl q.grown,?_,yf q _ (aR _),G,z⟩;exact qZ w _
 .exact⟨_,dc _ _ _,rfl⟩
def Wt (S:Rel N w0 μ0 L μ loc st a w) {s:SV} {v:Value} (h:ot st s=true) (k:fQ μ loc s v):v.oneCell'=true/\v.cells= #[v]:=by cases s with
 |undef=>simp[ot] at h
 |any=>simp[ot] at h
 |pv x=>cases x with
  |agg O=>simp[ot] at h
  |gU O=>simp[ot] at h
  |self n=>simp[fQ,rep] at k
  |qh=>subst k;exact⟨rfl,rfl⟩
  |tS=>subst k;exact⟨rfl,rfl⟩
  |hole=>assumption
  |bool b=>subst k;exact⟨rfl,rfl⟩
  |int q n=>subst k;exact⟨rfl,rfl⟩
  |str q=>subst k;exact⟨rfl,rfl⟩
  |dD G xs=>obtain⟨A,c,rfl,_⟩:=k;exact⟨rfl,rfl⟩
  |fn f B=>obtain⟨F,rfl,_⟩:=k;exact⟨rfl,rfl⟩
  |ref O=>obtain⟨b,D,F,rfl,_⟩:=k;exact⟨rfl,rfl⟩
  |mp ks es=>rcases k with⟨rfl,_⟩|⟨b,kv,ev,rfl,_⟩<;>exact⟨rfl,rfl⟩
 |ptr id D=>obtain⟨b,_,rfl⟩:=k;exact⟨rfl,rfl⟩
 |row id=>
  simp[ot] at h;split at h
  .rename_i e G xs l;obtain⟨F,z,_⟩:=S.obs _ _ l;have e :=k;rcases z.2 with⟨e1,_⟩|⟨g,H,R,e1,_⟩<;>(rw[e,e1];exact⟨rfl,rfl⟩)
  .rename_i k' V ks F l;obtain⟨b,eL,I,U,_⟩:=S.obs _ _ l;have e :=k;rw[e,U];exact⟨rfl,rfl⟩
  .rename_i V G q e2 s2 xs ys l;obtain⟨m,us,F,U,_,z,_⟩:=S.obs _ _ l;have e:v=m:=(k).trans (by rw[U];rfl);rcases z.2 with⟨e1,_⟩|⟨g,H,R,e1,_⟩<;>(rw[e,e1];exact⟨rfl,rfl⟩)
  grind
 |rp id G i D=>obtain⟨g,n,c,_,rfl⟩:=k;exact⟨rfl,rfl⟩
 |sub id G lo hi=>simp[ot] at h
 |two s b=>simp[ot] at h
 |three s b c=>simp[ot] at h
 |cp O=>obtain⟨b,D,F,rfl,_⟩:=k;exact⟨rfl,rfl⟩
 |cl f B=>obtain⟨F,rfl,_⟩:=k;unfold clV;cases Nat.blt f _ with
  |true=>exact⟨rfl,rfl⟩
  |false=>cases Nat.blt f _ with
   |true=>exact⟨rfl,rfl⟩
   |false=>split<;>exact⟨rfl,rfl⟩
 |ag B=>simp[ot] at h
 |aq j q=>simp[ot] at h
def tc {loc:Nat->Value}:∀{caps:List oF} {l:List Value},kH μ loc caps l->gT μ loc (caps.map J7) l
 |[],l,h=>h
 |c::D,l,⟨u,B,e,q,z⟩=>by refine⟨u,B,e,?_,tc z⟩;cases c with
  |v a=>exact q
  |p id=>exact q
  |r id=>exact q
def Pv (hR:Rel N w0 μ0 L μ loc st a w) {t:TypeId} {len:Nat} {l:Array (Nat×Operand)} {e:TypeId} {s:Nat} {xs:List (List AV)} (h:kT P t len l.toList st=some (e,s,xs)):
  ∃vs:List Value,(Instr.buildSlice t len (l.map λp=>(p.1,a.eval p.2))).run P w= .ok (.slice (some ⟨w.heap.size,0,none⟩) len len) (w.alloc (.cells vs.toArray e))/\cV μ s xs vs/\xs.length=len/\len<=maxLen/\0<s:=by
 unfold kT at h;split at h
 .rename_i e' B hs;obtain⟨hu,inf,q,O⟩:=fS hs;split at h
  .rename_i z G hz hps;split at h
   .rename_i hc;obtain⟨I,D,hzl,hnt⟩:=hc;cases hf:yL (λi=>some (i *B,B)) (tV z len) G with
    |none=>simp_all
    |some S=>
     simp[hf] at h;obtain⟨rfl,rfl,rfl⟩:=h;obtain⟨i,v,U,hv,H⟩:=oC (μ:=μ) hz;rw[q] at U;injection U with U;subst U;obtain⟨h1,h2⟩:=yp hR hps;have hzc :=by have:=H.length;simpa[hzl] using this
     obtain⟨ws,R,hr⟩:=DY (us:=l.toList.map λp=>(p.1,a.eval p.2)) hf (FO H _) (by simp_all) (by simp_all[mX]) (λp hp x e=>by
      have:=cI.1 hnt p hp
      rw[e] at this;cases this)
     have hcl:S.length=len *B:=by
      have key:∀(G) (cells S),yL (λi=>some (i *B,B)) cells G=some S->S.length=cells.length:=by intro G;induction G with
       |nil=>simp_all[yL]
       |cons p G ih=>grind[yL]
      grind[Bc]
     refine⟨ws,?_,Bf _ hr hcl,Dp _ _ _,by simp[maxLen];have:len *1<=len *B:=Bz _ D;omega,D⟩;have F:(replicate len v.cells.toList).flatten.toArray=madeCells v.cells (len *B):=by grind[vw]
     rw[F] at R;by_cases V:len *B=0
     .have e0:madeCells v.cells (len *B)= #[]:=by rw[V];simp[madeCells]
      rw[e0] at R;simp[Instr.buildSlice,bR hu,sizeOf,typeInfo,q,O,V,R,newRow,Array.range_zero']
     .simp[madeCells] at R;simp[Instr.buildSlice,bR hu,sizeOf,typeInfo,q,O,V,zeroValue,hv,R,newRow,I]
   grind
  grind
 grind
def OI {o:Oper} {t:TypeId} {len:Nat} {l:Array (Nat×Operand)} {d e s:Nat} {xs:List (List AV)} (D:Rel N w0 μ0 L μ loc st a w) (R:d<N) (B:o.dst=some d) (S:o.op= .buildSlice t len l)
  (h:kT P t len l.toList st=some (e,s,xs)) (O:oP N w0 μ0 L ((st.new d (.row e s xs)).set (some d) (.row d)) K):o.wU P a w K Q:=by
 obtain⟨I,U,q,z,G,H⟩:=Pv D h;refine jg (v:= .slice (some ⟨w.heap.size,0,none⟩) len len) (w':=w.alloc (.cells I.toArray e)) (by simp_all[execOp]) ?_;rw[B];refine O _ _ _ _ (D.made R (by simp[mE,cu]) ?_ (Qa rfl));refine⟨I,⟨by rw[cZ q], .inr ⟨_,_,_,?_,cS _,qZ w _,by omega,G,?_,?_⟩⟩,q,λg F=> ?_⟩
 .rw[dc,z]
 .grind[cZ]
 .rw[z,<-z,<-cZ q];simp
 .rw[dc] at F;simp[mE,cu] at F;subst F;exact⟨.inl D.grown,yf D _ (aR _)⟩
def Aq {k:Nat} {c:List AV} (h:qF k c=true):c[k]? =some .tS:=by grind[qF]
theorem wJ {q k:Nat}:∀{xs:List (List AV)} {z:List Value},cV μ q xs z->xs.all (qF k)=true->k<q->cV μ q (xs.map λc=>c.set k .hole) z/\∀i,i<xs.length->z[i *q+k]? =some (.slice none 0 0)
 |[],z,h,_,_=>⟨h,λi D=>by simp at D⟩
 |x::xs,z,⟨F,ws,e,B,G,H⟩,l,I=>by subst e;simp only[lW,aU] at l;have S:=Aq l.1;obtain⟨U,V⟩:=wJ H l.2 I;obtain⟨v,R,O⟩:=tu B.1 S;subst O;refine⟨⟨F,ws,rfl,⟨Lj B.1 R (by simp[rep,Value.oneCell',Value.cells]),B.2⟩,G,U⟩,λi D=> ?_⟩;cases i with
  |zero=>grind
  |succ i=>rw[fP (by grind),show(i+1) *q+k-F.length=i *q+k by grind];simp_all
def Mx {o:Oper} {t:TypeId} {len:Nat} {l:Array (Nat×Operand)} {d e s k e' s':Nat} {xs:List (List AV)} (R:Rel N w0 μ0 L μ loc st a w) (hd:d<N) (G:o.dst=some d) (ho:o.op= .buildSlice t len l)
  (h:kT P t len l.toList st=some (e,s,xs)) (hk:k<s) (B:xs.all (qF k)=true) (hK:oP N w0 μ0 L ((st.new d (.rn e s k e' s' (xs.map λc=>c.set k .hole) (xs.map λ_=>some []))).set (some d) (.row d)) K):o.wU P a w K Q:=by
 obtain⟨vs,hr,D,O,hml,hpos⟩:=Pv R h;obtain⟨I,H⟩:=wJ D B hk;refine jg (v:= .slice (some ⟨w.heap.size,0,none⟩) len len) (w':=w.alloc (.cells vs.toArray e)) (by simp_all[execOp]) ?_;rw[G];have hown:(w.alloc (.cells vs.toArray e)).ownsRow 0 e s _ _ _:=
  ⟨by rw[cZ D,O], .inr ⟨_,_,_,rfl,cS _,qZ w _,by omega,hml,by grind[cZ],by rw[<-O,<-cZ D];simp⟩⟩
 refine hK _ _ _ _ (R.made' (val:= .tuple (.slice _ _ _::xs.map λ_=> .slice none 0 0).toArray) hd (λg z=> ?_) ?_ (rowS' rfl))
 .rcases j8.1 z with z|⟨u,F,z⟩
  .simp_all[cu]
  .obtain⟨c,_,rfl⟩:=aD.1 F;simp[cu] at z
 .refine⟨_,_,vs,dc _ _ _,λq hq=> ?_,by simp_all,I,⟨hk,λc S=> ?_⟩,by simp,by simp,λi zs V=> ?_,λi V=> ?_,λu F g z=> ?_,λi j u v F hv hij g z=> ?_⟩
  .simp[cu] at hq;subst hq;exact⟨.inl R.grown,yf R _ (aR _)⟩
  .obtain⟨c',U,rfl⟩:=aD.1 S;have:=Aq (cI.1 B _ U);grind
  .simp only[dA,cL] at V;obtain⟨c,S,e1⟩:=V;simp at e1;subst e1;exact⟨_,[],by simp[S],H i (bP.1 S).1,⟨ai, .inl ⟨rfl,rfl⟩⟩,rfl,λg z=>by simp[cu] at z⟩
  .simp_all
  .obtain⟨c,_,rfl⟩:=aD.1 F;simp[cu] at z
  .simp at F;obtain⟨c,_,rfl⟩:=F;simp[cu] at z
theorem Vu {o:Oper} {t:TypeId} {len:Nat} {l:Array (Nat×Operand)} {e s:Nat} {xs:List (List AV)} (z:Rel N w0 μ0 L μ loc st a w) (U:∀i,o.dst=some i->i<N) (ho:o.op= .buildSlice t len l)
  (h:kT P t len l.toList st=some (e,s,xs)) (S:oP N w0 μ0 L (st.set o.dst (.pv (.dD s xs))) K):o.wU P a w K Q:=by
 obtain⟨H,hr,G,hxl,V,O⟩:=Pv z h;refine jg (v:= .slice (some ⟨w.heap.size,0,none⟩) len len) (w':=w.alloc (.cells H.toArray e)) (by simp_all[execOp]) ?_;let μ' :=λb j=>if b=w.heap.size then H[j]? else μ b j
 have F:=yf z;have D:μ.le μ':=λb j v B=>by grind
 have R:=z.grow (w':=w.alloc (.cells H.toArray e)) ⟨D,λb j v B=>by
   grind⟩ (λb j v B=>by
   by_cases I:b=w.heap.size
   .subst I;have q :=by simpa[μ'] using B
    exact xL (by simp[q]) (kI G v (aV q))
   .have q :=by simpa[μ',I] using B
    exact z.T1 (xo w _) b j v q) (xo w _)
 refine S _ _ _ _ (R.set U ?_);show rep _ _ _;rw[rep];grind[Be]
def Ca (D:Rel N w0 μ0 L μ loc st a w):∀{z:List (Nat×Operand)} {i:Nat} {B:List SV},B9 P st i z=some B->
  gT μ loc B (z.map λp=>a.eval p.2)/\z.map (·.1)=List.range' i z.length/\B.length=z.length/\∀p∈z,∃q,a.eval p.2= .pointer q
 |[],i,B,h=>by simp[B9] at h;subst h;simp[gT]
 |(j,x)::l,i,B,h=>by
  unfold B9 at h;split at h
  .rename_i id off vs' I V;cases F:Nat.beq i j with
   |false=>rw[F] at h;cases h
   |true=>
    rw[F] at h;simp only[au,bg] at h;subst h;obtain⟨O,R,S,U⟩:=Ca D V;have hv:=aW D I;have G:=wZ F;subst G;obtain⟨b,_,e⟩:=hv;refine⟨⟨_,_,rfl,aW D I,O⟩,by simp[q7,R],by simp[S],λp H=> ?_⟩;rcases aN.1 H with rfl|H
    .exact⟨_,e⟩
    .exact U p H
  .cases h
def Nn:∀(l:List (Nat×Value)) (pre post:List Value),l.map (·.1)=List.range' pre.length l.length->post.length=l.length->(∀p∈l,p.2.cells= #[p.2])->
  Instr.fill (λi=>some (i *1,1)) (pre++post).toArray l=some (pre++l.map (·.2)).toArray
 |[],pre,post,_,q,_=>by
  have:post=[]:=lS (by simpa using q)
  subst this;simp[Instr.fill]
 |(j,v)::l,pre,[],_,q,_=>by simp at q
 |(j,v)::l,pre,x::post,h,q,B=>by
  simp only[bH,bz,q7,cR] at h;obtain⟨rfl,h⟩:=h;have D:v.cells= #[v]:=B (pre.length,v) ai;have F:=Nn l (pre++[v]) post (by simpa using h) (by simpa using q) (λp q=>B p (by simp[q]));simp only[Instr.fill];rw[az (by simp[D])];have e:(Array.foldl (λz (x:Value×Nat)=>z.setIfInBounds (pre.length *1+x.2) x.1) (pre++x::post).toArray v.cells.zipIdx)=(pre++[v]++post).toArray:=by rw[D];simp
  rw[show(v.cells.zipIdx.foldl (λz (c,j)=>z.setIfInBounds (pre.length *1+j) c) (pre++x::post).toArray)=(pre++[v]++post).toArray from e,F];simp
def Sr {o:Oper} {t:TypeId} {len:Nat} {l:Array (Nat×Operand)} {d:Nat} {st':St} (H:Rel N w0 μ0 L μ loc st a w) (hd:d<N) (G:o.dst=some d) (ho:o.op= .buildSlice t len l)
  (h:Pu P st d t len l.toList=some st') (hK:oP N w0 μ0 L st' K):o.wU P a w K Q:=by
 unfold Pu at h;split at h
 .rename_i e vs hs S;split at h
  .rename_i z0 hz;cases I:(Nat.beq vs.length len&&Nat.blt 0 len&&Nat.blt len 100) with
   |false=>rw[I] at h;cases h
   |true=>
    rw[I] at h;simp only[au,bg] at h;subst h;simp only[aU,cK] at I;obtain⟨⟨hl,h0⟩,h100⟩:=I;have hl:=wZ hl;obtain⟨hu,inf,B,hsz⟩:=fS hs;obtain⟨i,v,O,hv,R⟩:=oC (μ:=μ) hz;rw[B] at O;injection O with O;subst O;have F:v.cells.size=1:=by have:=R.length;simpa using this
    obtain⟨k1,k2,k3,k4⟩:=Ca H S;have U:l.toList.length=len:=af
    have z:=Nn (l.toList.map λp=>(p.1,a.eval p.2)) [] (replicate len v.cells.toList).flatten (by simpa[mX] using k2) (by simp[U,F]) (λp S=>by
     obtain⟨q,V,rfl⟩:=aD.1 S;obtain⟨x,e⟩:=k4 q V
     simp[e,Value.cells])
    have D:(replicate len v.cells.toList).flatten.toArray=madeCells v.cells (len *1):=by have:=vw v.cells 1 F af len;rw[<-this]
    simp only[dK,D] at z;have hrun:(Instr.buildSlice t len (l.map λp=>(p.1,a.eval p.2))).run P w= .ok (.slice (some ⟨w.heap.size,0,none⟩) len len) (w.alloc (.cells ((l.toList.map λp=>a.eval p.2).toArray) e)):=by have hne:¬len *1=0:=af;simp only[madeCells,eG] at z;simp[Instr.buildSlice,bR hu,sizeOf,typeInfo,B,hsz,zeroValue,hv,newRow] at z⊢;rw[az af,az af];simp_all[mX]
    refine jg (v:= .slice (some ⟨w.heap.size,0,none⟩) len len) (w':=w.alloc (.cells ((l.toList.map λp=>a.eval p.2).toArray) e)) (by simp_all[execOp]) ?_;rw[G];refine hK _ _ _ _ (H.made' (val:= .pointer (some ⟨w.heap.size,0,none⟩)) hd (by simp[mE,cu]) ?_ ⟨_,dc _ _ _,rfl⟩);refine⟨_,_,dc _ _ _, .inl H.grown,qZ w _,yf H _ (aR _),xJ _ _ k1,λu hu=> ?_⟩;obtain⟨q,V,rfl⟩:=aD.1 hu;obtain⟨x,e⟩:=k4 q V;simp[e,Value.oneCell']
  .cases h
 .cases h
def abt {o:Oper} {t:TypeId} {l c:Operand} {d e s:Nat} {kl kc:IntKind} {nl D:Int} {z:List AV} {i:TypeInfo} (G:Rel N w0 μ0 L μ loc st a w) (hd:d<N) (O:o.dst=some d) (ho:o.op= .makeSlice t l c)
  (hs:isSlice P t=some (e,s)) (hl:(bI P 0 st l).bind kM =some (.int kl nl)) (hc:(bI P 0 st c).bind kM =some (.int kc D)) (hz:zeroCells P e=some z) (U:P.info? e=some i)
  (F:0<s/\z.length=s/\0<=nl/\nl<=D/\i.bytes *D.toNat<=281474976710656/\D<=9223372036854775807)
  (hK:oP N w0 μ0 L ((st.new d (.row e s (replicate nl.toNat z))).set (some d) (.row d)) K):o.wU P a w K Q:=by
 obtain⟨hpos,hzl,h0,hlc,hby,h63⟩:=F;obtain⟨hu,S,q,hsz⟩:=fS hs;rw[q] at U;injection U with U;subst U;obtain⟨i',v,B,hv,I⟩:=oC (μ:=μ) hz;rw[q] at B;injection B with B;subst B;have hzc :=by have:=I.length;simpa[hzl] using this
 have hlv:=gI G hl;have V:=gI G hc;rw[rep] at hlv V;have H :=by have e1:((S.bytes *D.toNat:Nat):Int)<=281474976710656:=af;rw[Int.natCast_mul,Int.toNat_of_nonneg af] at e1;exact e1
 have hr:=run_make w t e _ v hu q hv kl kc _ _ h0 hlc H h63;refine jg (v:= .slice (some ⟨w.heap.size,0,none⟩) nl.toNat D.toNat) (w':=w.alloc (.cells (madeCells v.cells (D.toNat *S.size)) e)) (by simp_all[execOp]) ?_;rw[O];refine hK _ _ _ _ (G.made hd (by simp[mE,cu]) ?_ (Qa rfl));have R:=qR I af nl.toNat;refine⟨_,⟨cZ R, .inr ⟨_,D.toNat,_,?_,cS _,qZ w _,?_,?_,?_,?_⟩⟩,R,λg hg=> ?_⟩
 .rw[dc];simp
 .simp;omega
 .simp[maxLen];omega
 .rw[size_madeCells,hsz]
 .grind[vw,Rp,Array.length_toList]
 .rw[dc] at hg;simp[mE,cu] at hg;subst hg;exact⟨.inl G.grown,yf G _ (aR _)⟩
def eff_nil {o:Oper} {d e s:Nat} (q:Rel N w0 μ0 L μ loc st a w) (D:d<N) (l:o.dst=some d) (G:o.op= .assign (.const (.slice none 0 0)))
  (B:oP N w0 μ0 L ((st.new d (.row e s [])).set (some d) (.row d)) K):o.wU P a w K Q:=by
 refine jg (v:= .slice _ 0 0) (by unfold execOp;rw[G];rfl) ?_;rw[l];refine B _ _ _ _ ((q.new (.inl (fG D q.small)) ?_ (λj O I F g z=>by simp[mE,cu] at z)).set (λi H=>by simp_all) (Qa rfl));refine⟨[],⟨ai, .inl ⟨dc _ _ _,rfl⟩⟩,rfl,λg z=> ?_⟩;simp_all[dc,mE,cu]
def Lu {t e ty:TypeId} {l:TypeInfo} {v:Value} (F:P.underlying t=some (.slice e)) (z:P.info? e=some l) (G:l.zero=some v) {q:Addr} {n c:Nat} (D:0<n) {w':World} (B:(storeCells q (Builtin.zeroCells v.cells n).toList).run P w= .ok () w'):
  (Builtin.clear_ #[t] ty #[.slice (some q) n c]).run P w= .ok (.tuple #[]) w':=by
 obtain⟨k,rfl⟩:∃k,n=k+1:=⟨n-1,af⟩
 simp_all[Builtin.clear_,bR,zeroValue,typeInfo]
def Zr {o:Oper} {c:Call} {t e e':TypeId} {s id sz V l q:Nat} {x:Operand} {xs:List (List AV)} {z:List AV} (hR:Rel N w0 μ0 L μ loc st a w) (H:o.dst=none) (ho:o.op= .call c) (hc:c.callee= .builtin .clear) (ha:c.args.toList=[x]) (ht:c.argTypes.toList=[t])
  (hs:isSlice P t=some (e,s)) (hx:bI P t st x=some (.sub id sz l q)) (R:st.ob id=some (.row e' V xs)) (hz:zeroCells P e=some z) (O:s=sz/\sz=V/\z.length=sz/\q<=xs.length/\e=e'/\0<sz)
  (hK:oP N w0 μ0 L { st with ob:=put st.ob id (some (.row e' V (xs.take l++replicate (q-l) z++xs.drop q))) } K):o.wU P a w K Q:=by
 obtain⟨rfl,rfl,hzl,hhi,rfl,hpos⟩:=O;obtain⟨callee,⟨args⟩,⟨argTypes⟩⟩:=c;simp only at hc ha ht;subst hc;subst ha;subst ht;obtain⟨hu,inf,I,hsz⟩:=fS hs;obtain⟨A,n,cp,A',c',S0,hlo,hhn,hcc,hxv,_,hg⟩:=aW hR hx;obtain⟨vs,hown,S,hm⟩:=hR.obs id _ R;by_cases hlt:l<q
 .obtain⟨g,rfl,rfl⟩:=hg hlt;obtain⟨D,B,hloc',F,hnc,hcm,hcs,Nw⟩:∃D B,loc id= .slice (some ⟨g,0,none⟩) xs.length D/\w.heap[g]? =some (.cells B e (0,0))/\xs.length<=D/\D<=maxLen/\B.size=D *s/\B.toList.take (xs.length *s)=vs:=by
   rcases hown.2 with⟨_,e2⟩|⟨g',D,B,e1,_,h2,h3,h4,h5,h6⟩
   .omega
   simp_all
  obtain⟨i',v,G,hv,hcz⟩:=oC (μ:=μ) hz;rw[I] at G;injection G with G;subst G;have hzc:v.cells.size=s:=by have:=hcz.length;simpa[hzl] using this
  have hzs:(Builtin.zeroCells v.cells (q-l)).toList=(replicate (q-l) v.cells.toList).flatten:=by rw[<-vw v.cells s hzc hpos (q-l)];simp[Builtin.zeroCells,madeCells,hzc]
  have U:=qR (sz:=s) hcz af (q-l);have HQ:((replicate (q-l) v.cells.toList).flatten).length=(q-l) *s:=by have:=cZ U;simpa using this
  have hvl:=cZ S;have hcl:xs.length *s<=B.size:=by rw[hcs];exact jR _ hnc
  have hmul:l *s+(q-l) *s=q *s:=by rw[<-jQ];congr 1;omega
  have hhis:q *s<=xs.length *s:=jR _ hhi;have hsc:=xb P g (l *s) e (replicate (q-l) v.cells.toList).flatten 0 B w F af (kI U);simp only[lV,HQ] at hsc;have ab1:=ow (ow (kN S l) U) (DE S q);have hxl':(xs.take l++replicate (q-l) z++xs.drop q).length=xs.length:=by simp;omega
  have hrun:=Lu (P:=P) (ty:=o.type) (c:=c') (n:=q-l) hu I hv af (by rw[hzs];omega);refine jg (v:= .tuple #[]) (w':=w.setRow g (B.toList.take (l *s)++(replicate (q-l) v.cells.toList).flatten++B.toList.drop (l *s+(q-l) *s)).toArray) (by simp_all[execOp,resolve,invoke,builtin,jm,tL,kJ,List.map_toArray,bH,ey]) ?_;rw[H];refine hK _ _ _ _ (hR.write R (g:=g) (by rw[S0];exact iJ.2 rfl) (λk hk=>xd w g k _ hk) rfl rfl rfl ai ?_);refine⟨_,⟨?_, .inr ⟨g,D,_,?_,cS _,BA w g B _ e _ F,?_,hcm,?_,?_⟩⟩,ab1,λg' hg'=>hm g' hg'⟩
  .grind
  .simp_all
  .omega
  .grind
  grind[Nat.mul_le_mul_right,Nat.min_eq_left,List.drop_take,replicate,List.length_append,List.length_take,List.take,List.drop,List.take_append,List.take_of_length_le]
 .have h0:q-l=0:=af;have e0:xs.take l++replicate (q-l) z++xs.drop q=xs:=by
   rw[show l=q from by omega];simp
  rw[e0] at hK
  refine jg (v:= .tuple #[]) (w':=w) (by
   unfold execOp;rw[ho];simp[resolve,invoke,builtin,hxv,h0,Builtin.clear_,bR hu]
   cases A'<;>simp) ?_
  rw[H];refine hK _ _ μ loc ?_
  have:put st.ob id (some (.row e s xs))=st.ob:=by
   funext i;by_cases e:id=i
   .subst e;rw[cW,R]
   .rw[bS _ _ e]
  rw[this];exact hR
def Kf {o:Oper} {t:TypeId} {x y:Operand} {sa sv:SV} (hR:Rel N w0 μ0 L μ loc st a w) (GA:o.dst=none) (ho:o.op= .store t x y)
  (S:fQ μ loc sa (a.eval x)) (VG:fQ μ loc sv (a.eval y)) (h:storeAt P t st sa sv=some st') (hK:oP N w0 μ0 L st' K):o.wU P a w K Q:=by
 have fin:∀(ad:Addr) (w':World),a.eval x= .pointer (some ad)->(storeVar t ad (a.eval y)).run P w= .ok () w'->Rel N w0 μ0 L μ loc st' a w'->o.wU P a w K Q:=λad w' e hr hR'=>by refine Mj (w':=w') ?_ (by rw[GA];exact hK _ _ _ _ hR');simp_all[execOp,Instr.storeAt,Instr.sureAddr,jm,tL,kJ]
 unfold storeAt at h;split at h
 .rename_i id l;obtain⟨b,hl,S⟩:=S;split at h
  .rename_i bt cells n R hsz;obtain⟨b',I,hl',hnF,B,I4,hss,h1⟩:=hR.obs id _ R;rw[hl] at hl';simp only[Value.pointer.injEq,bg,Addr.mk.injEq,eH] at hl';subst hl';have hlen:=ql hss;have U:∀(D:List Value) (sus:List SV),(a.eval y).cells.toList=D->D.length=n->l+n<=I.length->(∀u∈D,u.oneCell'=true)->gT μ loc sus D->
     st'={ st with ob:=put st.ob id (some (.box bt (cells.take l++sus++cells.drop (l+n)))) }->o.wU P a w K Q:=by
    intro D sus BX HQ hle G hsus hst;have hsc:=xb P b l bt D 0 I.toArray w B aH G;simp only[lV] at hsc
    refine fin ⟨b,l,none⟩ _ S (by
     have:(a.eval y).cells.size=n:=by rw[<-HQ,<-BX];simp
     simp only[storeVar,jm,kQ hsz,kJ,this,ne_eq,BB,gG,tL,BX]
     omega) ?_
    rw[hst];refine hR.write R (g:=b) (by rw[hl];exact Ff.2 rfl) (λk hk=>xd w b k _ hk) rfl rfl rfl ai ?_;refine⟨b,I.take l++D++I.drop (l+n),hl,hnF,?_,I4,?_,?_⟩
    .grind[setRow_heap]
    .grind[mc,Eh,Eg]
    .grind
   split at h
   .rename_i cs;split at h
    .rename_i q;injection h with h;obtain⟨D,e,V,G⟩:=VG;have hs:=tc V;exact U D (cs.map J7) (by rw[e];rfl) (by grind[ql,List.length_map]) af G hs h.symm
    grind
   .rename_i cs;split at h
    .rename_i q;injection h with h;have S6:=VG;simp only[fQ,rep] at S6;obtain⟨D,e,V,G⟩:=S6;exact U D (cs.map .pv) (by rw[e];rfl) (by grind[tE]) af G (sD V) h.symm
    grind
   .split at h
    .rename_i q;injection h with h;obtain⟨ho1,hc1⟩:=Wt hR q.2.2 VG;refine U [a.eval y] [sv] (by rw[hc1]) (by simp_all) af (by simp_all) ⟨_,[],rfl,VG,rfl⟩ ?_;simp_all[Hu,aB]
    grind
  grind
 .rename_i id H i l;obtain⟨g,n',cp,hl,S⟩:=S;split at h
  .rename_i e sz' xs n v R hsz;split at h
   .rename_i c hg;split at h
    .rename_i q;obtain⟨rfl,hvl,hle,hnt⟩:=q;injection h with h;rw[jC (hR.obs id _ R)] at hl;obtain⟨I,hown,hrc,hm⟩:=hR.obs id _ R;have hil:i<xs.length:=(bP.1 hg).1;obtain⟨O,F,S0,B,hnc,hcm,hcs,Nw⟩:∃O F,loc id= .slice (some ⟨g,0,none⟩) xs.length O/\w.heap[g]? =some (.cells F e (0,0))/\xs.length<=O/\O<=maxLen/\F.size=O *H/\F.toList.take (xs.length *H)=I:=by
      rcases hown.2 with⟨_,e2⟩|⟨g',O,F,e1,_,h2,h3,h4,h5,h6⟩
      .omega
      simp_all
     have hyc:lD μ v.cells (a.eval y).cells.toList:=NV (show rep μ v (a.eval y) from VG) (λz e=>by rw[e] at hnt;cases hnt);have HQ:(a.eval y).cells.toList.length=n:=by rw[hyc.length];exact hvl
     have key:∀(xs:List (List AV)) (I:List Value) (i:Nat) (c:List AV),cV μ H xs I->xs[i]? =some c->l+n<=c.length->
       cV μ H (xs.set i (c.take l++v.cells++c.drop (l+n))) (I.take (i *H+l)++(a.eval y).cells.toList++I.drop (i *H+l+n))/\i *H+l+n<=I.length:=by
      intro xs;induction xs with
      |nil=>simp
      |cons x xs ih=>intro I i c hrc hx hle;obtain⟨D,ws,rfl,k1,k2,k3⟩:=hrc;cases i with
       |zero=>
        simp at hx;subst hx;have hxl:=k1.length;refine⟨?_,aH⟩;refine⟨D.take l++(a.eval y).cells.toList++D.drop (l+n),ws,?_,((k1.take l).append hyc).append (k1.drop (l+n)),?_,k3⟩
        .grind
        grind
       |succ i=>
        simp at hx;obtain⟨r1,r2⟩:=ih ws i c k3 hx hle;refine⟨?_,by grind⟩;refine⟨D,ws.take (i *H+l)++(a.eval y).cells.toList++ws.drop (i *H+l+n),?_,k1,k2,r1⟩
        rw[show(i+1) *H+l=D.length+(i *H+l) from by grind,Hv,
         show D.length+(i *H+l)+n=D.length+(i *H+l+n) from by omega,Bw]
        simp
     obtain⟨ab1,hle'⟩:=key xs I i c hrc hg hle;have hvl':=cZ hrc;have hcl:xs.length *H<=F.size:=by rw[hcs];exact jR _ hnc
     have hsc:=xb P g (i *H+l) e _ 0 _ w B af hyc.2;simp only[HQ] at hsc
     refine fin _ _ S (by
      have :=by simpa using HQ
      simp[storeVar,jm,kQ hsz,kJ,this,ne_eq,BB,gG]
      omega) ?_
     rw[<-h];refine hR.write R (by rw[hl];exact iJ.2 rfl) (λk hk=>xd w g k _ hk) rfl rfl rfl ai ?_;refine⟨_,⟨?_, .inr ⟨g,_,_,?_,cS _,BA w g _ _ e _ B,?_,hcm,?_,?_⟩⟩,ab1,λg' hg'=>hm _ hg'⟩
     .grind
     .simp_all
     .simp_all
     .grind
     .rw[show I.take _=F.toList.take (i *H+l) from by grind,
       show I.drop _=(F.toList.drop _).take _ from by rw[<-Nw,Hp]]
      rw[List.take_append,iG (by grind)];congr 2;grind
    grind
   grind
  grind
 grind
def Zu {o:Oper} {t:TypeId} {x y:Operand} {z B:SV} (q:Rel N w0 μ0 L μ loc st a w) (l:o.dst=none) (F:o.op= .store t x y)
  (G:bI P 0 st x=some z) (H:bI P t st y=some B) (h:storeAt P t st z B=some st') (D:oP N w0 μ0 L st' K):o.wU P a w K Q:=
 Kf q l F (aW q G) (aW q H) h D
def Sj {o:Oper} {t:TypeId} {x y:Operand} {id H j I n:Nat} (B:Rel N w0 μ0 L μ loc st a w) (F:o.dst=none) (ho:o.op= .store t x y) (hx:bI P 0 st x=some (.ptr id H)) (hy:bI P t st y=some (.sub j I 0 n))
  (h:Xm P st t id H j I n=some st') (hK:oP N w0 μ0 L st' K):o.wU P a w K Q:=by
 unfold Xm at h;split at h
 .rename_i e sz' xs G;cases S:(Nat.beq I sz'&&gC j&& !(Nat.beq id j)) with
  |false=>simp_all
  |true=>
  rw[S] at h;simp at h;simp only[aU] at S;obtain⟨⟨b1,b2⟩,b3⟩:=S;have c1:=beq_iff.1 b1;subst c1;have hne:id≠j:=λe=>by simp_all
  have hxa:=aW B hx;obtain⟨A,m,c,A',c',hl,_,hnm,_,hu,h0,_⟩:=aW B hy;obtain⟨rfl,rfl⟩:=h0 rfl;have U:j<10000\/20000<=j:=by simp[gC,gx] at b2;rcases b2 with hm|hm<;>simp_all
  obtain⟨us,l,hrc,hm⟩:=B.obs j _ G;have hml:m=xs.length:=by rcases l.2 with⟨e1,e2⟩|⟨q,O,R,e1,_⟩<;>simp_all
  have D:∀q,mE (.slice A' n c') q↔mE (loc j) q:=λq=>by rw[hl,iJ,iJ];cases A'<;>rfl
  have h2:=B.new (o:= .row e I (xs.take n)) U ?_ (λk ok hk V q hq=>B.apart j k _ _ G hk (eB V) q ((D q).1 hq))
  .refine Kf h2 F ho ?_ ?_ h hK
   .obtain⟨b,k1,k2⟩:=hxa;exact⟨b,by simp_all[c8],k2⟩
   .show a.eval y=fW _;rw[dc,hu];rfl
  .have z:=kN hrc n;refine⟨_,⟨by rw[cZ z],?_⟩,z,λq hq=> ?_⟩
   .rw[dc];rcases l.2 with⟨e1,e2⟩|⟨q,O,R,e1,k1,k2,k3,k4,k5,k6⟩
    .simp_all
    grind[Nat.mul_le_mul_right]
   simp_all[dc]
 grind
def Bi (t ty e:TypeId) (i:TypeInfo) (B:P.underlying t=some (.slice e)) (z:P.info? e=some i) (v:Value) (n:Nat) (xs:List Value) (size:Nat) (l:w.ownsRow 0 e size v n xs) (c:Nat):
  (Builtin.append_ #[t,t] ty #[v, .slice none 0 c]).run P w= .ok v w:=by
 rcases l.2 with⟨rfl,rfl⟩|⟨g,D,F,rfl,_,_,q,_⟩
 .simp[Builtin.append_,bR B,sizeOf,typeInfo,z,Builtin.lenOf,Builtin.firstCells]
 .simp[Builtin.append_,bR B,sizeOf,typeInfo,z,Builtin.lenOf,Builtin.firstCells,q,storeCells]
def Vm {o:Oper} {x y:Operand} {t e:TypeId} {d F id:Nat} {sy:SV} {xs U:List (List AV)} {i:TypeInfo} (B:Rel N w0 μ0 L μ loc st a w) (hd:d<N) (GA:o.dst=some d)
  (ho:o.op= .call { callee:= .builtin .append,args:= #[x,y],argTypes:= #[t,t] }) (hs:isSlice P t=some (e,F)) (hx:bI P t st x=some (.row id)) (hy:bI P t st y=some sy)
  (I:st.ob id=some (.row e F xs)) (hel:elems st sy=some (F,U)) (hi:P.info? e=some i) (hpos:0<F) (hby:(xs.length+U.length) *i.bytes<=140737488355328) (hlen:xs.length+U.length<=4611686018427387904)
  (hz:i.zero.map (λz=>z.cells.size)=some F) (hid:id<10000\/20000<=id) (hK:oP N w0 μ0 L ((st.new id (.row e F (xs++U))).set (some d) (.row id)) K):o.wU P a w K Q:=by
 obtain⟨hu,inf,G,hsz⟩:=fS hs;rw[G] at hi;injection hi with hi;subst hi;obtain⟨z,UI,hzs⟩:∃z,inf.zero=some z/\z.cells.size=F:=by simp_all
 have hxv:a.eval x=loc id:=(aW B hx:a.eval x=fW (loc id)).trans (jC (B.obs id _ I));have VG:=aW B hy;obtain⟨vs,O,hrc,hm⟩:=B.obs id _ I;obtain⟨A,c,S6,us,BX,hsrc⟩:=tM B hel VG;have HQ:=cZ BX;obtain⟨R,w',hrun,Fe,l,D⟩:∃R w',(Builtin.append_ #[t,t] o.type #[loc id, .slice A U.length c]).run P w= .ok R w'/\w'.ownsRow 0 e F R (xs.length+U.length) (vs++us)/\w.grownBy w' (loc id).ownBlock/\
   (R.ownBlock=(loc id).ownBlock\/R.ownBlock=some w.heap.size):=by
  cases A with
  |none=>
   have h0:U.length=0:=by
    rcases hsrc with h0|⟨ad,h,_⟩
    .exact h0
    .cases h
   have hu0:us=[]:=lS (by simp_all);subst hu0;rw[h0];exact⟨loc id,w,Bi t o.type e inf hu G (loc id) _ vs F O c,by simp_all,⟨rfl,rfl,rfl,aR _,λ_ _ _=>rfl⟩, .inl rfl⟩
  |some ad=>
   have V:∀j u,us[j]? =some u->w.cell? (ad.add j)=some u:=by rcases hsrc with h0|⟨ad',h,hc⟩<;>simp_all
   obtain⟨R,w',h1,h2,h3,_,h5⟩:=run_append_own_at (P:=P) w 0 t o.type e inf z F inf.bytes hu G UI hsz rfl hzs hpos (loc id) xs.length vs O ad U.length c us HQ V (kI BX) (by simp only[maxLen];omega) hby (cS _);grind
 have hbo:∀v:Value,(∃A n c,v= .slice A n c)->v.ownBlock=cu v:=by rintro v ⟨A,n,c,rfl⟩;cases A<;>rfl
 have S0:∃A n c,loc id= .slice A n c:=by rcases O.2 with⟨e1,_⟩|⟨g,cap,cur,e1,_⟩<;>simp_all
 have hv':∃A n c,R= .slice A n c:=by rcases Fe.2 with⟨e1,_⟩|⟨g,cap,cur,e1,_⟩<;>simp_all
 rw[hbo _ S0] at l D;rw[hbo _ hv'] at D;have hok:=B.obs id _ I;refine jg (v:=R) (w':=w') (by simp_all[execOp,resolve,invoke,builtin]) ?_;rw[GA]
 have h1:=(B.drop id).world (w':=w') (Mu.le.refl _) (λ_ _ _ h=> .inl h) (λb j v h=>by
   have hc:=B.yz b j v h;have hlt:=sK hc;have H:some b≠cu (loc id):=λe=>by have:=(hok.block b (.inl e.symm)).2.2 j;simp_all
   rw[jf (l.block b hlt H)];omega) (λk ok hk b q=>by
   by_cases e':id=k
   .simp_all[cW]
   .simp only[bS _ _ e'] at hk;obtain⟨_,hlt,I4⟩:=(B.obs k ok hk).block b q;have H:some b≠cu (loc id):=λe=>B.apart id k _ ok I hk e' b (.inl e.symm) q
    exact⟨l.block b hlt H,I4⟩) (λb q hl=>by
   refine l.block b (fG q B.grown) (λe=> ?_);rcases(hok.block b (.inl e.symm)).1 with h|h|⟨v,hv,h⟩
   .omega
   .exact hl h.cG
   .exact hl ⟨id,v,hv,h⟩) l.os l.tape l.output l.size (λ_=>GX hrun)
 have h2:=h1.new (val:=R) (o:= .row e _ _) hid (by
   refine⟨_,?_,ow hrc BX,λg S=> ?_⟩
   .simp_all[dc]
   .rw[dc] at S;replace S:cu R=some g:=by obtain⟨A',n',c',rfl⟩:=hv';exact iJ.1 S
    rcases D with q|q
    .rw[S] at q;have:=hok.block g (.inl q.symm);simp_all
    .rw[S] at q;injection q with q;subst q
     exact⟨.inl B.grown,yf B _ (aR _)⟩) (λj oj hj H g S=>by
   have hj':st.ob j=some oj:=by
    by_cases e':id=j
    .omega
    .simp_all[bS]
   replace S:cu R=some g:=by obtain⟨A',n',c',rfl⟩:=hv';exact iJ.1 S
   rcases D with q|q
   .rw[S] at q;exact B.apart _ j _ _ I hj' (λe=>H e.symm) g (.inl q.symm)
   .rw[S] at q;injection q with q;intro hbj;have:=((B.obs j _ hj').block _ hbj).2.1
    omega)
 have heq:St.new { st with ob:=put st.ob id none } id (.row e F (xs++U))=St.new st id (.row e F (xs++U)):=by
  simp[St.new,St.dG];congr 1;funext k;by_cases e':id=k
  .subst e';simp[cW]
  .simp[bS _ _ e']
 rw[heq] at h2;exact hK _ _ _ _ (h2.set (λi hi=>by simp_all) (Qa (by obtain⟨A',n',c',rfl⟩:=hv';rfl)))
def IM (w:World) (t ty e:TypeId) (i:TypeInfo) (z:Value) (size bytes:Nat) (ht:P.underlying t=some (.slice e)) (hi:P.info? e=some i) (hz:i.zero=some z)
  (G:i.size=size) (U:i.bytes=bytes) (hzs:z.cells.size=size) (A:Option Addr) (n I:Nat) (xs:List Value) (q:w.ownsRow 0 e size (.slice A n I) n xs)
  (a:Addr) (m c:Nat) (l:List Value) (O:l.length=m *size) (B:∀j u,l[j]? =some u->w.cell? (a.add j)=some u) (h63:n+m<=maxLen) (D:(n+m) *bytes<=140737488355328) (hm:0<m):
  ∃S w',(Builtin.append_ #[t,t] ty #[.slice A n n, .slice (some a) m c]).run P w= .ok S w'/\w'.ownsRow 0 e size S (n+m) (xs++l)/\w.grownBy w' (Value.ownBlock (.slice A n I))/\
   (S.ownBlock=Value.ownBlock (.slice A n I)\/S.ownBlock=some w.heap.size):=by
 subst G U;have H:(xs++l).length=(n+m) *i.size:=by rw[bQ,q.1,O,jQ]
 have hge:=grownCap_ge w (n+m) n e;have V :=grownCap_le_maxLen w _ n e h63;have R:n+m<=9223372036854775807:=by simp[maxLen] at h63;omega
 have key:∀row,(w.drew.alloc (.cells (xs.toArray++l.toArray++Builtin.zeroCells z.cells (grownCap w (n+m) n e-(n+m))) e)).ownsRow 0 e _ _ _ _/\
   w.grownBy (w.drew.alloc (.cells (xs.toArray++l.toArray++Builtin.zeroCells z.cells (grownCap w (n+m) n e-(n+m))) e)) row:=λrow=>by
  refine⟨⟨H, .inr ⟨_,_,_,rfl,cS _,qZ _ _,hge,V,?_,?_⟩⟩,⟨rfl,rfl,rfl,by simp,λk hk _=>heap_alloc_old _ _ k hk⟩⟩
  .simp[Array.size_append,q8,size_zeroCells,hzs,q.1,O,<-jQ];simp_all
  grind
 rcases q.2 with⟨e1,e2⟩|⟨g,cap,cur,e1,_⟩
 .have hx:xs=[]:=lS (by simp_all);injection e1 with e1 _ _;subst hx e2 e1;have hr:=run_append_nil w t ty e i z ht hi hz a m c _ O B af af (by grind);have F:=key (Value.ownBlock (.slice none 0 I));simp at F⊢;exact⟨_,_,hr,F.1,F.2, .inr rfl⟩
 .injection e1 with e1 _ _;subst e1;have hr:=run_append_grow w t ty e i z ht hi hz _ n n _ q.1 (q.cells rfl) a m c _ O B af af (growslice_fits af D);exact⟨_,_,hr,(key none).1,(key _).2, .inr rfl⟩
def Sn {o:Oper} {x y:Operand} {t e:TypeId} {d I id:Nat} {sy:SV} {xs H:List (List AV)} {i:TypeInfo} (D:Rel N w0 μ0 L μ loc st a w) (hd:d<N) (GA:o.dst=some d)
  (ho:o.op= .call { callee:= .builtin .append,args:= #[x,y],argTypes:= #[t,t] }) (hs:isSlice P t=some (e,I)) (hx:bI P t st x=some (.aq id .full)) (hy:bI P t st y=some sy)
  (U:st.ob id=some (.row e I xs)) (hel:elems st sy=some (I,H)) (hi:P.info? e=some i) (hpos:0<I) (hby:(xs.length+H.length) *i.bytes<=140737488355328) (hlen:xs.length+H.length<=4611686018427387904)
  (hz:i.zero.map (λz=>z.cells.size)=some I) (hid:id<10000\/20000<=id) (B:H.isEmpty=false) (hK:oP N w0 μ0 L ((st.new id (.row e I (xs++H))).set (some d) (.row id)) K):o.wU P a w K Q:=by
 obtain⟨hu,inf,hinf,hsz⟩:=fS hs;rw[hinf] at hi;injection hi with hi;subst hi;obtain⟨z,UI,hzs⟩:∃z,inf.zero=some z/\z.cells.size=I:=by simp_all
 have VG:=aW D hy;obtain⟨vs,G,hrc,hm⟩:=D.obs id _ U;have hpos2:0<H.length:=by cases H with
  |nil=>simp at B
  |cons y H=>simp
 obtain⟨A0,hxv⟩:∃A0,a.eval x= .slice A0 xs.length xs.length/\∃c,loc id= .slice A0 xs.length c:=by
  obtain⟨A0,n,c,e1,e2⟩:=aW D hx;have hn:n=xs.length:=by rcases G.2 with⟨e3,e4⟩|⟨g,cap,cur,e3,_⟩<;>simp_all
  simp_all
 obtain⟨hxv,c0,hl0⟩:=hxv;obtain⟨A,c,S6,us,BX,hsrc⟩:=tM D hel VG;have HQ:=cZ BX;obtain⟨O,w',hrun,Fe,l,F⟩:∃O w',(Builtin.append_ #[t,t] o.type #[.slice A0 xs.length xs.length, .slice A H.length c]).run P w= .ok O w'/\w'.ownsRow 0 e I O (xs.length+H.length) (vs++us)/\w.grownBy w' (loc id).ownBlock/\
   (O.ownBlock=(loc id).ownBlock\/O.ownBlock=some w.heap.size):=by
  cases A with
  |none=>simp_all
  |some ad=>
   have S:∀j u,us[j]? =some u->w.cell? (ad.add j)=some u:=by
    rcases hsrc with h0|⟨ad',h,hc⟩
    .omega
    .simp_all
   rw[hl0] at G⊢;obtain⟨O,w',h1,h2,h3,h5⟩:=IM (P:=P) w t o.type e inf z I inf.bytes hu hinf UI hsz rfl hzs A0 xs.length c0 vs G ad H.length c us HQ S (by simp only[maxLen];omega) hby hpos2;grind
 have hbo:∀v:Value,(∃A n c,v= .slice A n c)->v.ownBlock=cu v:=by rintro v ⟨A,n,c,rfl⟩;cases A<;>rfl
 have S0:∃A n c,loc id= .slice A n c:=by rcases G.2 with⟨e1,_⟩|⟨g,cap,cur,e1,_⟩<;>simp_all
 have V:∃A n c,O= .slice A n c:=by
  rcases Fe.2 with⟨e1,_⟩|⟨g,cap,cur,e1,_⟩
  .omega
  .simp_all
 rw[hbo _ S0] at l F;rw[hbo _ V] at F;have hok:=D.obs id _ U;refine jg (v:=O) (w':=w') (by simp_all[execOp,resolve,invoke,builtin]) ?_;rw[GA]
 have h1:=(D.drop id).world (w':=w') (Mu.le.refl _) (λ_ _ _ h=> .inl h) (λb j v h=>by
   have hc:=D.yz b j v h;have hlt:=sK hc;have B:some b≠cu (loc id):=λe=>by have:=(hok.block b (.inl e.symm)).2.2 j;simp_all
   rw[jf (l.block b hlt B)];omega) (λk ok hk b q=>by
   by_cases e':id=k
   .simp_all[cW]
   .simp only[bS _ _ e'] at hk;obtain⟨_,hlt,I4⟩:=(D.obs k ok hk).block b q;have B:some b≠cu (loc id):=λe=>D.apart id k _ ok U hk e' b (.inl e.symm) q
    exact⟨l.block b hlt B,I4⟩) (λb q hl=>by
   refine l.block b (fG q D.grown) (λe=> ?_);rcases(hok.block b (.inl e.symm)).1 with h|h|⟨v,hv,h⟩
   .omega
   .exact hl h.cG
   .exact hl ⟨id,v,hv,h⟩) l.os l.tape l.output l.size (λ_=>GX hrun)
 have h2:=h1.new (val:=O) (o:= .row e _ _) hid (by
   refine⟨_,?_,ow hrc BX,λg R=> ?_⟩
   .simp_all[dc]
   .rw[dc] at R;replace R:cu O=some g:=by obtain⟨A',n',c',rfl⟩:=V;exact iJ.1 R
    rcases F with q|q
    .rw[R] at q;have:=hok.block g (.inl q.symm);simp_all
    .rw[R] at q;injection q with q;subst q
     exact⟨.inl D.grown,yf D _ (aR _)⟩) (λj oj hj B g R=>by
   have hj':st.ob j=some oj:=by
    by_cases e':id=j
    .omega
    .simp_all[bS]
   replace R:cu O=some g:=by obtain⟨A',n',c',rfl⟩:=V;exact iJ.1 R
   rcases F with q|q
   .rw[R] at q;exact D.apart _ j _ _ U hj' (λe=>B e.symm) g (.inl q.symm)
   .rw[R] at q;injection q with q;intro hbj;have:=((D.obs j _ hj').block _ hbj).2.1
    omega)
 have heq:St.new { st with ob:=put st.ob id none } id (.row e I (xs++H))=St.new st id (.row e I (xs++H)):=by
  simp[St.new,St.dG];congr 1;funext k;by_cases e':id=k
  .subst e';simp[cW]
  .simp[bS _ _ e']
 rw[heq] at h2;exact hK _ _ _ _ (h2.set (λi hi=>by simp_all) (Qa (by obtain⟨A',n',c',rfl⟩:=V;rfl)))
def Sq {o:Oper} {x y:Operand} {t e e2:TypeId} {d F id k s2:Nat} {sy:SV} {xs H:List (List AV)} {zs:List (Option (List (List AV)))} {i:TypeInfo} (G:Rel N w0 μ0 L μ loc st a w) (hd:d<N) (GA:o.dst=some d)
  (ho:o.op= .call { callee:= .builtin .append,args:= #[x,y],argTypes:= #[t,t] }) (hs:isSlice P t=some (e,F)) (hx:bI P t st x=some (.row id)) (hy:bI P t st y=some sy)
  (V:st.ob id=some (.rn e F k e2 s2 xs zs)) (hel:elems st sy=some (F,H)) (S:P.info? e=some i) (hpos:0<F) (hby:(xs.length+H.length) *i.bytes<=140737488355328) (hlen:xs.length+H.length<=4611686018427387904)
  (hz:i.zero.map (λz=>z.cells.size)=some F) (hid:id<10000\/20000<=id) (hall:H.all (qF k)=true) (hK:oP N w0 μ0 L ((st.new id (.rn e F k e2 s2 (xs++H.map λc=>c.set k .hole) (zs++H.map λ_=>some []))).set (some d) (.row id)) K):o.wU P a w K Q:=by
 obtain⟨D,inf,U,hsz⟩:=fS hs;rw[U] at S;injection S with S;subst S;obtain⟨z,UI,hzs⟩:∃z,inf.zero=some z/\z.cells.size=F:=by cases hzz:inf.zero with
  |none=>simp[hzz] at hz
  |some z=>simp[hzz] at hz;exact⟨z,rfl,hz⟩
 obtain⟨m,vu,vs,hl,hm,I,hrc,hk,h2,h3,h4,h5,h6,h7⟩:=G.obs id _ V;have hxv:a.eval x=m:=(aW G hx:a.eval x=fW (loc id)).trans (by rw[hl];rfl);have VG:=aW G hy;obtain⟨A,c,S6,us,BX,hsrc⟩:=tM G hel VG;have HQ:=cZ BX;obtain⟨hus',Kv⟩:=wJ BX hall hk.1;obtain⟨v',w',hrun,Fe,l,hblk⟩:∃v' w',(Builtin.append_ #[t,t] o.type #[m, .slice A H.length c]).run P w= .ok v' w'/\w'.ownsRow 0 e F v' (xs.length+H.length) (vs++us)/\w.grownBy w' m.ownBlock/\
   (v'.ownBlock=m.ownBlock\/v'.ownBlock=some w.heap.size):=by
  cases A with
  |none=>
   have h0:H.length=0:=by
    rcases hsrc with h0|⟨ad,h,_⟩
    .exact h0
    .cases h
   have hu0:us=[]:=lS (by rw[HQ,h0];simp);subst hu0;rw[h0];exact⟨m,w,Bi t o.type e inf D U m _ vs F I c,by simpa using I,⟨rfl,rfl,rfl,aR _,λ_ _ _=>rfl⟩, .inl rfl⟩
  |some ad=>
   have hcells:∀j u,us[j]? =some u->w.cell? (ad.add j)=some u:=by
    rcases hsrc with h0|⟨ad',h,R⟩
    .have hu0:us=[]:=lS (by rw[HQ,h0];simp);subst hu0;intro j u D;simp at D
    .injection h with h;subst h;exact R
   obtain⟨v',w',h1,h2,h3,_,h5⟩:=run_append_own_at (P:=P) w 0 t o.type e inf z F inf.bytes D U UI hsz rfl hzs hpos m xs.length vs I ad H.length c us HQ hcells (kI BX) (by simp only[maxLen];omega) hby (cS _);exact⟨v',w',h1,h2,h3,h5⟩
 have hbo:∀v:Value,(∃A n c,v= .slice A n c)->v.ownBlock=cu v:=by rintro v ⟨A,n,c,rfl⟩;cases A<;>rfl
 have hsl:∀{w:World} {v:Value} {n:Nat} {cs:List Value} {e s:Nat},w.ownsRow 0 e s v n cs->∃A n c,v= .slice A n c:=λho=>by rcases ho.2 with⟨e1,_⟩|⟨g,cap,cur,e1,_⟩<;>exact⟨_,_,_,e1⟩
 have VE:=hsl I;have hv':=hsl Fe;rw[hbo _ VE] at l hblk;rw[hbo _ hv'] at hblk;have hok:=G.obs id _ V;have hinm:∀g,cu m=some g->mE (loc id) g:=λg B=>by rw[hl];exact j8.2 (.inl B)
 have hinu:∀u∈vu,∀g,cu u=some g->mE (loc id) g:=λu D g B=>by rw[hl];exact j8.2 (.inr ⟨u,D,B⟩)
 refine jg (v:=v') (w':=w') (by unfold execOp;rw[ho];simp[resolve,invoke,builtin,hxv,S6,hrun]) ?_;rw[GA]
 have h1:=(G.drop id).world (w':=w') (Mu.le.refl _) (λ_ _ _ h=> .inl h) (λb j v h=>by
   have R:=G.yz b j v h;have hlt:=sK R;have O:some b≠cu m:=λe=>by have:=(hm b e.symm).2 j;rw[this] at h;cases h
   rw[jf (l.block b hlt O)];omega) (λk ok hk b hb=>by
   by_cases e':id=k
   .subst e';simp[cW] at hk
   .simp only[bS _ _ e'] at hk;obtain⟨_,hlt,I4⟩:=(G.obs k ok hk).block b hb;have O:some b≠cu m:=λe=>G.apart id k _ ok V hk e' b (hinm b e.symm) hb
    exact⟨l.block b hlt O,I4⟩) (λb hb hl'=>by
   refine l.block b (fG hb G.grown) (λe=> ?_);rcases(hm b e.symm).1 with h|h|⟨v,hv,h⟩
   .omega
   .exact hl' h.cG
   .exact hl' ⟨id,v,hv,h⟩) l.os l.tape l.output l.size (λ_=>GX hrun)
 have hvl:=cZ hrc;have mem:∀u∈vu++H.map (λ_=>(.slice none 0 0:Value)),u∈vu\/u= .slice none 0 0:=λu D=>by
  rcases bu.1 D with D|D
  .exact .inl D
  .obtain⟨c,_,rfl⟩:=aD.1 D;exact .inr rfl
 have hvg:∀g,cu v'=some g->(cu m=some g)\/g=w.heap.size:=λg B=>by grind
 have h2':=h1.new (id:=id) (val:= .tuple (v'::(vu++H.map λ_=>(.slice none 0 0:Value))).toArray) (o:= .rn e F k e2 s2 (xs++H.map λc=>c.set k .hole) (zs++H.map λ_=>some [])) hid (by
   refine⟨v',_,vs++us,dc _ _ _,λg B=> ?_,by rw[bQ,bf];exact Fe,ow hrc hus',⟨hk.1,λc R=> ?_⟩,by simp[h2],by simp[h3],λi zs' S=> ?_,λi S=> ?_,λu D g B hgv=> ?_,λi j u v D hv hij g B hg'=> ?_⟩
   .rcases hvg g B with hb|rfl
    .exact⟨(hm g hb).1,(hm g hb).2⟩
    .exact⟨.inl G.grown,yf G _ (aR _)⟩
   .rcases bu.1 R with R|R
    .exact hk.2 c R
    .obtain⟨c',hc',rfl⟩:=aD.1 R;have:=Aq (cI.1 hall c' hc');rw[mZ (bP.1 this).1]
   .by_cases hil:i<zs.length
    .rw[eU hil] at S;obtain⟨u,cells,k1,k2,k3,k4,k5⟩:=h4 i zs' S;refine⟨u,cells,by rw[eU af];exact k1,by rw[eU (bP.1 k2).1];exact k2,qj k3 (λg B=> ?_),k4,k5⟩;exact l.block g (yo k3 B) (λe=>h6 u (aV k1) g B e.symm)
    .rw[fP af] at S;simp only[dA,cL] at S;obtain⟨c,R,e1⟩:=S;simp only[bg] at e1;subst e1;have hcl:=(bP.1 R).1;refine⟨.slice none 0 0,[],by rw[fP af];simp[h2,R],?_,⟨ai, .inl ⟨rfl,rfl⟩⟩,rfl,λg B=>by simp[cu] at B⟩;have e3:i *F+k-vs.length=(i-zs.length) *F+k:=by
      rw[hvl,h3,Nat.sub_mul]
      have:zs.length *F<=i *F:=jR _ af
      omega
     rw[fP (by rw[hvl,h3];have:zs.length *F<=i *F:=jR _ (by omega);omega),e3];exact Kv _ hcl
   .grind
   .rcases mem u D with D|rfl
    .rcases hvg g hgv with hb|rfl
     .grind
     .have:=(hok.block _ (hinu u D _ B)).2.1;omega
    .simp[cu] at B
   .have split:∀q z,(vu++H.map λ_=>(.slice none 0 0))[q]? =some z->∀g,cu z=some g->vu[q]? =some z:=λq z hz g B=>by
     by_cases hq:q<vu.length
     .rwa[eU hq] at hz
     .rw[fP af] at hz;simp only[dA,cL] at hz;obtain⟨c,_,e1⟩:=hz;subst e1;simp[cu] at B
    exact h7 i j u v (split i u D g B) (split j v hv g hg') hij g B hg') (λj oj hj O g B=>by
   have hj':st.ob j=some oj:=by
    by_cases e':id=j
    .omega
    .simpa only[bS _ _ e'] using hj
   rcases j8.1 B with B|⟨u,D,B⟩
   .rcases hvg g B with hb|rfl
    .exact G.apart _ j _ _ V hj' (λe=>O e.symm) g (hinm g hb)
    .intro hbj;have:=((G.obs j _ hj').block _ hbj).2.1;omega
   .rcases mem u D with D|rfl
    .exact G.apart _ j _ _ V hj' (λe=>O e.symm) g (hinu u D g B)
    .simp[cu] at B)
 have heq:∀o',St.new { st with ob:=put st.ob id none } id o'=St.new st id _:=λo'=>by
  simp[St.new,St.dG];congr 1;funext k;by_cases e':id=k
  .subst e';simp[cW]
  simp_all[bS]
 rw[heq] at h2';exact hK _ _ _ _ (h2'.set (λi S=>by simp_all) (rowS' (by rfl)))
theorem Tu {t k e:TypeId} {r:Option Operand} (z:Rel N w0 μ0 L μ loc st a w) (F:P.underlying t=some (.map k e)) (B:y6 P st r=true):(Instr.makeMap t (r.map a.eval)).run P w= .ok (.map (some w.heap.size)) (w.alloc (.map #[] 0)):=by
 have l:(Instr.makeMap t (r.map a.eval)).run P w= .ok (.map (some w.heap.size)) (w.alloc (.map #[] 0)):=by cases r with
  |none=>rfl
  |some x=>simp[y6] at B;cases D:(bI P 0 st x).bind kM with
   |none=>simp_all
   |some y=>cases y with
    |int q n=>have:=gI z D;simp_all[rep,Instr.makeMap,bR,asInt,asIntOf]
    |_=>simp_all
 omega
def Ss {o:Oper} {t k e:TypeId} {r:Option Operand} {d:Nat} (q:Rel N w0 μ0 L μ loc st a w) (D:d<N) (l:o.dst=some d) (I:o.op= .makeMap t r) (H:P.underlying t=some (.map k e))
  (G:y6 P st r=true) (B:oP N w0 μ0 L ((st.new d (.mp k e [] [])).set (some d) (.row d)) K):o.wU P a w K Q:=by
 have z:=Tu q H G;refine jg (v:= .map (some w.heap.size)) (w':=w.alloc (.map #[] 0)) (by simp_all[execOp]) ?_;rw[l];refine B _ _ _ _ (q.made D (λg F=>Ah.1 F) ?_ ?_)
 .refine⟨_, #[],0,dc _ _ _, .inl q.grown,(by show(w.heap.push _)[w.heap.size]? =_;simp),yf q _ (aR _),by rfl,by rfl,⟨ai,ai⟩⟩
 .exact Qa rfl
theorem V2 {key x:AV} {z B:Value} (h:xC key x=some true) (l:rep μ key z) (q:rep μ x B):z=B/\key=x:=by
 unfold xC at h;split at h
 .rw[rep] at l q;simp_all
 .split at h
  .rw[rep] at l q;simp_all
  grind
 .rw[rep] at l q;simp_all
 grind
def Fj {q:Value} {key:AV} (B:rep μ key q) {z:TypeId} (l:om P z key=true) (w:World):(Instr.keyThatStays q q).run P w= .ok q w:=by
 have D:∀n,Instr.sameBits n q q=true:=by
  unfold om at l;split at l
  .simp_all[rep,Instr.sameBits,aeg]
  .simp_all[rep,Instr.sameBits]
  .simp_all[rep,Instr.sameBits]
  .cases l
 simp_all[Instr.keyThatStays]
theorem Ll {xs:List AV} {l:List Value} (h:cN μ xs l) {i:Nat} {x:AV} {v:Value} (z:rep μ x v):cN μ (xs.set i x) (l.set i v):=by induction xs generalizing l i with
 |nil=>simp_all[cN]
 |cons y xs D=>obtain⟨u,F,rfl,B,q⟩:=h;cases i with
  |zero=>simpa using cQ z q
  |succ i=>simp_all[cQ]
def MJ {t kt et:TypeId} {b:Nat} {eL:Array MapEntry} {q:Nat} {key:AV} {kv x:Value} {ks:List AV} {r:Option Nat} (hu:P.underlying t=some (.map kt et)) (hh:w.heap[b]? =some (.map eL q)) (F:rep μ key kv) (H:om P kt key=true)
  (h1:cN μ ks (eL.toList.map (·.key))) (hf:xD key ks=some r):
  ∃l B,(Instr.mapUpdate t (.map (some b)) kv x).run P w= .ok () { w with heap:=w.heap.setIfInBounds b (.map l B) }/\
   (r=none->cN μ (ks++[key]) (l.toList.map (·.key))/\l.toList.map (·.val)=eL.toList.map (·.val)++[x])/\
   (∀j,r=some j->cN μ ks (l.toList.map (·.key))/\l.toList.map (·.val)=(eL.toList.map (·.val)).set j x/\j<eL.size)/\(Born eL q->Born l B):=by
 have S:=BV F H h1 hf w;cases r with
 |none=>
  refine⟨eL.push { key:=kv,val:=x,born:=q },q+1,?_,λ_=>⟨?_,ai⟩,(λj e=>by cases e),λR=>⟨λy G=> ?_,?_⟩⟩
  .simp[Instr.mapUpdate,bR hu,oA hh,rZ F H,S,setObj,Sem.run,hh]
  .simp_all[oz,cQ,dR]
  .rw[Array.toList_push,bu] at G;rcases G with G|G
   .have:=R.1 y G;omega
   simp_all
  .rw[Array.toList_push,cE,jq];refine⟨R.2,by simp,λa ha b hb=> ?_⟩;obtain⟨y,G,rfl⟩:=aD.1 ha;simp at hb;have:=R.1 y G;omega
 |some j=>
  obtain⟨e,he,U,y,G,hyk⟩:=S;obtain⟨yv,V,hyr⟩:=tu h1 G;have I :=by simpa using he
  have S6 :=by simp[I] at V;exact V.symm
  subst S6;obtain⟨O,_⟩:=V2 hyk F hyr;have D:(eL.modify j λe=>{ e with key:=kv,val:=x }).toList.map (·.born)=eL.toList.map (·.born):=by
   apply kK;intro i;by_cases e1:j=i
   .simp_all
   .simp[e1]
  refine⟨_,q,?_,(λe=>by cases e),(λj' ej=> ?_),λR=>⟨λy G=> ?_,by rw[D];exact R.2⟩⟩
  rotate_right
  .have hm:y.born∈eL.toList.map (·.born):=by rw[<-D];exact aD.2 ⟨y,G,rfl⟩
   obtain⟨z,hz,e⟩:=aD.1 hm;rw[<-e];exact R.1 z hz
  .simp[Instr.mapUpdate,bR hu,oA hh,rZ F H,U,I,<-O,Fj F H,setObj,Sem.run,hh]
  .injection ej with ej;subst ej;refine⟨?_,?_,(mu.1 I).1⟩
   .have:(eL.modify j λe=>{ e with key:=kv,val:=x }).toList.map (·.key)=eL.toList.map (·.key):=by
     apply kK;intro i;by_cases e1:j=i
     .simp_all
     .simp[e1]
    simp_all
   .apply kK;grind
def E1 {o:Oper} {t:TypeId} {m k x:Operand} (hR:Rel N w0 μ0 L μ loc st a w) (H:o.dst=none) (U:o.op= .mapUpdate t m k x\/o.op= .insert t m k x) (h:yS P st t m k x=some st')
  (hK:oP N w0 μ0 L st' K):o.wU P a w K Q:=by
 unfold yS at h;split at h
 .rename_i kt et hu;split at h
  .rename_i st1 B;obtain⟨F,z⟩:∃F,Rel N w0 μ0 L F loc st1 a w:=by
    unfold V6 at B;split at B
    .grind
    .obtain⟨μ',_,h'⟩:=hR.dr B;grind
    simp_all
   split at h
   .rename_i id key v hm hk hx;split at h
    .rename_i k' e' ks vs I;cases hc:(om P kt key&&v.HY) with
     |false=>simp_all
     |true=>
      simp[hc] at h;simp at hc;split at h
      .rename_i ks' vs' R;injection h with h;subst h;obtain⟨b,eL,V,hl,O,hh,I4,h1,h2,hB⟩:=z.obs _ _ I;have VE:a.eval m= .map (some b):=by
        have:=aW z hm;rw[this,hl];rfl
       have hkr:=gI z hk;have hxr:=gI z hx;have S:∃l q,(Instr.mapUpdate t (a.eval m) (a.eval k) (a.eval x)).run P w= .ok () { w with heap:=w.heap.setIfInBounds b (.map l q) }/\cN F ks' (l.toList.map (·.key))/\cN F vs' (l.toList.map (·.val))/\Born l q:=by unfold Wj at R;cases hf:xD key ks with
        |none=>simp_all
        |some r=>obtain⟨l,q,G,q1,q2,q3⟩:=MJ (x:=a.eval x) hu hh hkr hc.1 h1 hf;grind[oz,cQ,dR,Ll]
       obtain⟨l,q,G,r1,r2,r3⟩:=S;have hlt:=(mu.1 hh).1;have D:=z.write I (by rw[hl];exact Ah.2 rfl) (w':={ w with heap:=w.heap.setIfInBounds b (.map l q) }) (o':= .mp k' e' _ _) (λb' hb'=>by grind) rfl rfl rfl ai ⟨b,_,_,hl,O,by simp[hlt],I4,r1,r2,r3⟩
       have:((execOp a.eval o).run P w)= .ok .skip { w with heap:=w.heap.setIfInBounds b (.map l q) }:=by unfold execOp;rcases U with U|U<;>rw[U]<;>simp[G]
       exact Mj this (by rw[H];exact hK _ _ _ _ D)
      grind
    grind
   grind
  grind
 grind
theorem OL {o:Oper} {c:Call} {t:TypeId} {m:Operand} (H:Rel N w0 μ0 L μ loc st a w) (B:o.dst=none) (ho:o.op= .call c) (hc:c.callee= .builtin .clear) (V:c.args.toList=[m]) (ht:c.argTypes.toList=[t]) (h:Fp P st t m=some st')
  (hK:oP N w0 μ0 L st' K):o.wU P a w K Q:=by
 obtain⟨G,⟨args⟩,⟨z⟩⟩:=c;simp only at hc V ht;subst hc;subst V;subst ht;unfold Fp at h;split at h
 .rename_i kt et hu;split at h
  .rename_i id hm;split at h
   .rename_i k' e' ks vs D;injection h with h;subst h;obtain⟨b,eL,l,O,F,I,S,h1,h2,hB⟩:=H.obs id _ D;have U:a.eval m= .map (some b):=by
     have:=aW H hm;simp only[fQ] at this;rw[this,O];rfl
    have R:=(mu.1 I).1;have hrun:(Builtin.clear_ #[t] o.type #[a.eval m]).run P w= .ok (.tuple #[]) { w with heap:=w.heap.setIfInBounds b (.map #[] l) }:=by simp[Builtin.clear_,U,bR hu,oA I,setObj,Sem.run,I]
    have q:=H.write D (by rw[O];exact Ah.2 rfl) (w':={ w with heap:=w.heap.setIfInBounds b (.map #[] l) }) (o':= .mp k' e' [] []) (λb' hb'=>by grind) rfl rfl rfl ai ⟨b, #[],l,O,F,by simp[R],S,dR,dR,⟨λx hx=>by simp at hx,ai⟩⟩
    refine jg (v:= .tuple #[]) (w':={ w with heap:=w.heap.setIfInBounds b (.map #[] l) }) (by
     unfold execOp;simp[resolve,invoke,builtin]
     simp_all) ?_
    rw[B];exact hK _ _ _ _ q
   .cases h
  .cases h
 .cases h
def Au {id:Nat} {val:Value} {I:Array Value} (q:loc id= .tuple I) (l:fW val=fW (loc id)):∀{D:List oF} {B:List Value},kH μ loc D B->kH μ (rF loc id val) D B
 |[],B,h=>h
 |c::D,B,⟨u,_,e,z,F⟩=>by refine⟨u,_,e,?_,Au q l F⟩;cases c with
  |v a=>exact z
  |p j=>
   obtain⟨b,O,H⟩:=z;have G:j≠id:=λe=>by simp_all
   exact⟨b,by simp_all[c8],H⟩
  |r j=>
   show u=fW _;by_cases e:j=id
   .subst e;rw[dc,l];exact z
   .rw[c8 _ _ e];exact z
theorem NT {id:Nat} {val:Value} {us:Array Value} (D:loc id= .tuple us) (B:fW val=fW (loc id)) {s:SV} {v:Value} (l:(∀q u,Cg q (loc id) u->Cg q val u)\/s.mentions (id+40000)=false) (k:fQ μ loc s v):fQ μ (rF loc id val) s v:=by induction s generalizing v with
 |undef=>exact k
 |any=>exact k
 |pv y=>exact k
 |cp cs=>exact k
 |ptr j off=>
  obtain⟨b,I,H⟩:=k;have R:j≠id:=λe=>by simp_all
  exact⟨b,by simp_all[c8],H⟩
 |row j=>
  show v=fW _;by_cases e:j=id
  .subst e;rw[dc,B];exact k
  .rw[c8 _ _ e];exact k
 |rp j sz i off=>obtain⟨g,n,c,I,H⟩:=k;refine⟨g,n,c,?_,H⟩;grind[dc,c8]
 |sub j sz lo hi=>
  obtain⟨A,n,c,A',c',I,H⟩:=k;have R:j≠id:=λe=>by simp_all
  exact⟨A,n,c,A',c',by simp_all[c8],H⟩
 |cl f G=>obtain⟨vs,e,O⟩:=k;exact⟨vs,e,Au D B O⟩
 |ag G=>obtain⟨vs,e,O,I⟩:=k;exact⟨vs,e,Au D B O,I⟩
 |aq j q=>
  show Cg q _ v;by_cases e:j=id
  .subst e;rw[dc];rcases l with l|l
   .exact l q v k
   simp_all[SV.mentions]
  .rw[c8 _ _ e];exact k
 |two s t S F=>obtain⟨x,y,e,k,V⟩:=k;exact⟨x,y,e,S (l.imp (λh=>h) λh=>(fT.1 h).1) k,F (l.imp (λh=>h) λh=>(fT.1 h).2) V⟩
 |three s t r S F U=>obtain⟨x,y,z,e,k,V,k3⟩:=k;exact⟨x,y,z,e,S (l.imp (λh=>h) λh=>(fT.1 (fT.1 h).1).1) k,F (l.imp (λh=>h) λh=>(fT.1 (fT.1 h).1).2) V,U (l.imp (λh=>h) λh=>(fT.1 h).2) k3⟩
def Ln {id:Nat} {val:Value} {O:Array Value} (z:loc id= .tuple O) (l:fW val=fW (loc id)):∀{D:List SV} {F:List Value},((∀q u,Cg q (loc id) u->Cg q val u)\/∀c∈D,c.mentions (id+40000)=false)->gT μ loc D F->gT μ (rF loc id val) D F
 |[],F,_,h=>h
 |c::D,F,B,⟨u,_,e,G,H⟩=>⟨u,_,e,NT z l (B.imp (λh=>h) λh=>h c ai) G,Ln z l (B.imp (λh=>h) λh c I=>h c (by simp[I])) H⟩
def noAt (id:Nat):Ob->Prop
 | .box _ cells=>∀c∈cells,c.mentions (id+40000)=false
 |_=>True
def Z4 {V:Nat} {i id:Nat} {val:Value} {D:Array Value} (B:loc id= .tuple D) (z:fW val=fW (loc id)) {o:Ob} (I:(∀q u,Cg q (loc id) u->Cg q val u)\/noAt id o) (h:nU V L μ loc w i o) (hne:i≠id):nU V L μ (rF loc id val) w i o:=by cases o with
 |box t cells=>obtain⟨b,F,O,ho,hh,R,hs,H⟩:=h;exact⟨b,F,by simp_all[c8],ho,hh,R,Ln B z I hs,H⟩
 |row e sz xs=>obtain⟨F,U,S,R⟩:=h;refine⟨F,by simp_all[c8],S,λg hg=>R g (by simp_all[c8])⟩
 |mp k e ks es=>obtain⟨b,eL,G,O,l⟩:=h;exact⟨b,_,_,by simp_all[c8],l⟩
 |lp xs=>obtain⟨D,O,H,h2⟩:=h;exact⟨D,by simp_all[c8],λg hg=>H g (by simp_all[c8]),h2⟩
 |rn e sz k e' sz' xs ys=>obtain⟨m,D,F,O,l⟩:=h;exact⟨m,D,F,by simp_all[c8],l⟩
def Rel.relay (B:Rel N w0 μ0 L μ loc st a w) {id:Nat} {o o':Ob} {val:Value} {us:Array Value} (ho:st.ob id=some o) (R:loc id= .tuple us) (D:fW val=fW (loc id)) (U:id<10000) {g:Nat} (hg:mE (loc id) g) {w':World}
  (H:∀b,b≠g->w'.heap[b]? =w.heap[b]?) (hos:w'.os=w.os) (G:w'.tape=w.tape) (I:w'.output=w.output) (hsz:w'.heap.size=w.heap.size)
  (sV:nU w0.heap.size L μ (rF loc id val) w' id o') (hap:∀j oj,st.ob j=some oj->j≠id->∀q,mE val q->¬mE (loc j) q) (SY:(∀q u,Cg q (loc id) u->Cg q val u)\/((∀i s,st.env i=some s->s.mentions (id+40000)=false)/\∀i S,st.ob i=some S->noAt id S)) (hdr:L.q->w.drawn<=w'.drawn:=by exact λ_=>aR _):Rel N w0 μ0 L μ (rF loc id val) { st with ob:=put st.ob id (some o') } a w':=by
 obtain⟨O,hlt,I4⟩:=(B.obs _ o ho).block g hg
 have l:=(B.drop id).world (Mu.le.refl _) (λ_ _ _ h=> .inl h) (λb j v h=>by
   have:=B.yz b j v h
   grind[jf]) (λi S z b hb=>by
   by_cases e:id=i
   .subst e;simp[cW] at z
   .simp[bS _ _ e] at z;have F:b≠g:=λe'=>by subst e';exact B.apart _ i o _ ho z e b hg hb
    exact⟨H b F,((B.obs i _ z).block b hb).2.2⟩) (λb hb hl=>by
   refine H b (λe=> ?_);subst e;rcases O with h|h|⟨v,V,h⟩
   .omega
   .exact hl h.cG
   .exact hl ⟨id,v,V,h⟩) hos G I af hdr
 refine⟨l.small,l.names,?_,l.size,l.defers,?_,l.yz,l.base,?_,?_,l.keep,l.os,l.tape,l.output,l.grown,l.drawn⟩
 .intro i v V h9 z;have F:i≠id:=λe=>by omega
  rw[c8 _ _ F];exact B.fix i v V h9 z
 .intro i s z;obtain⟨v,V,hr⟩:=l.env i s z;grind[NT]
 .intro i S z;by_cases e:id=i
  .simp_all[cW]
  .simp[bS _ _ e] at z;exact Z4 R D (SY.imp (λh=>h) λh=>h.2 i _ z) (l.obs i _ (by simp_all[bS])) (eB e)
 .intro i j S oj z hj hij q hq;by_cases ei:id=i
  .simp_all[bS,dc,c8,eB]
  .simp[bS _ _ ei] at z;rw[c8 _ _ (eB ei)] at hq;by_cases ej:id=j
   .grind[dc]
   .simp[bS _ _ ej] at hj;rw[c8 _ _ (eB ej)];exact B.apart i j _ _ z hj hij q hq
def Rel.PZ (l:Rel N w0 μ0 L μ loc st a w) (id:Nat):Rel N w0 μ0 L μ loc (st.dG id) a w:=by
 have V:rF loc id (loc id)=loc:=funext λi=>by grind[dc,c8]
 have q:∀i D,(st.dG id).ob i=some D->i≠id/\∃F,st.ob i=some F/\D=F.dG id:=λi D h=>by
  by_cases e:id=i
  .simp_all[St.dG,cW]
  .simp[St.dG,bS _ _ e,cL] at h;grind
 refine⟨l.small,l.names,l.fix,l.size,l.defers,?_,l.yz,l.base,?_,?_,l.keep,l.os,l.tape,l.output,l.grown,l.drawn⟩
 .intro i s z;simp[St.dG,cL] at z;obtain⟨s',B,rfl⟩:=z;obtain⟨v,hv,U⟩:=l.env i _ B;simp_all[iK]
 .intro i D z;obtain⟨H,F,B,rfl⟩:=q i _ z;have:=Eb (x:=loc id) (l.obs i _ B) H;simp_all
 .intro i j D F z O G;obtain⟨_,R,B,_⟩:=q i _ z;obtain⟨_,S,I,_⟩:=q j _ O;exact l.apart i j _ _ B I G
theorem MX {o:Oper} {t:TypeId} {x:Operand} {d:Nat} (V:Rel N w0 μ0 L μ loc st a w) (hd:d<N) (GA:o.dst=some d) (ho:o.op= .load t x) (h:xP P st t x d=some st') (hK:oP N w0 μ0 L st' K):o.wU P a w K Q:=by
 unfold xP at h;split at h
 .rename_i id sz i off O hagg;split at h
  .rename_i e sz' k e' s' xs ys S;split at h
   .rename_i zs hvi;cases hb:(Nat.beq sz sz'&&Nat.beq off k&& !(Nat.beq id d)&&Nat.blt id 10000) with
    |false=>simp_all
    |true=>
    rw[hb] at h;simp only[au,bg] at h;subst h;simp only[aU,jw] at hb;obtain⟨⟨⟨b1,b2⟩,b3⟩,b4⟩:=hb;have e1:=beq_iff.1 b1;have e2:=beq_iff.1 b2;subst e1 e2;have hne:id≠d:=λe=>by simp_all
    have hid:id<10000:=cK.mp b4;have hd':d<10000:=fG hd V.small;obtain⟨g,n,c,H,hxa⟩:=aW V O;obtain⟨m,us,vs,hl,hm,U,hrc,hk,h2,h3,h4,h5,h6,h7⟩:=V.obs id _ S;obtain⟨u,cells,k1,k2,k3,k4,k5⟩:=h4 i zs hvi;have VE:m= .slice (some ⟨g,0,none⟩) n c:=by rw[hl] at H;exact H
    have I:=U.cells (g:=g) (by rw[VE];rfl) _ _ k2;rw[add_lit,eF] at I
    refine jg (v:=u) (w':=w) (by
     unfold execOp;rw[ho]
     simp[hxa,Instr.loadAt,Instr.sureAddr,loadVar,rG hagg,I]) ?_
    rw[GA];have hil:i<us.length:=(bP.1 k1).1;have hLid:∀{q},IK w0.heap.size L id q->w0.heap.size<=q\/ZE L q:=λ{q} B=>V.D9 hid B
    have r1:=V.relay (id:=id) (o':= .rn e sz off e' s' xs (ys.set i none)) (val:= .tuple (m::us.set i undef).toArray) (g:=g) (w':=w) S hl (by rw[hl];rfl) hid (by rw[hl];exact j8.2 (.inl (by rw[VE];rfl))) (λ_ _=>rfl) rfl rfl rfl rfl (by
      have uG:∀(q:Nat) (z:Value),(us.set i undef)[q]? =some z->∀g,cu z=some g->us[q]? =some z:=λq z F g D=>by
       by_cases l:q=i
       .rw[l,mZ hil] at F;injection F with F;subst F;simp[undef,cu] at D
       grind
      refine⟨m,us.set i undef,vs,dc _ _ _,hm,U,hrc,hk,by simp[h2],by simp[h3],λq zs' B=> ?_,λq B=> ?_,λz F g D=> ?_,λq q' x y O hy hqq g D hg'=>h7 q q' x y (uG q x O g D) (uG q' y hy g hg') hqq g D hg'⟩
      .have l:q≠i:=λe=>by subst e;simp[xg] at B
       rw[ng (eB l)] at B;obtain⟨u',R,m1,m2⟩:=h4 q zs' B;exact⟨u',R,by rw[ng (eB l)];exact m1,m2⟩
      .by_cases l:q=i
       .subst l;simp[xg,hil]
       .rw[ng (eB l)] at B;rw[ng (eB l)];exact h5 q B
      .rcases xk F with F|rfl
       .exact h6 z F g D
       .simp[undef,cu] at D) (λj oj hj G q B=>by
      refine λhqj=>V.apart _ j _ _ S hj (eB G) q ?_ hqj
      rw[hl];rcases j8.1 B with B|⟨z,F,hzq⟩
      .exact j8.2 (.inl B)
      .rcases xk F with F|rfl
       .exact j8.2 (.inr ⟨z,F,hzq⟩)
       .simp[undef,cu] at hzq) (.inl λq u B=>by
      rw[hl] at B;cases q with
      |full=>obtain⟨A,n,c,e,_⟩:=B;cases e
      |bs q=>obtain⟨b,e,_⟩:=B;cases e
      |nr q=>
       obtain⟨m',us',e,h1,h2⟩:=B;have e':=aP Array.toList (Value.tuple.inj e);obtain⟨rfl,rfl⟩:=e';refine⟨m,_,rfl,h1,λx O=> ?_⟩;by_cases l:q=i
       .subst l;rw[mZ hil] at O;injection O with O;exact .inl O.symm
       .rw[ng (eB l)] at O;exact h2 x O)
    have hsl:fW u=u:=by rcases k3.2 with⟨e1,_⟩|⟨g,cap,cur,e1,_⟩<;>rw[e1]<;>rfl
    have hin:∀g,mE u g->cu u=some g:=λg D=>by rcases k3.2 with⟨e1,_⟩|⟨g',cap,cur,e1,_⟩<;>rw[e1] at D⊢<;>exact iJ.1 D
    have r2:=r1.new (o:= .row _ _ _) (.inl hd') (by
      refine⟨_,by rw[dc];omega,k4,λg D=> ?_⟩;rw[dc] at D;obtain⟨m1,m2⟩:=k5 g (hin g D)
      exact⟨(hLid m1).imp (λh=>h) .inl,m2⟩) (λj oj hj hjd g D=>by
      by_cases G:id=j
      .subst G;rw[dc];intro hb;rcases j8.1 hb with B|⟨z,F,hzq⟩
       .grind
       .obtain⟨q,B,eq⟩:=jo.1 F;have hq':(us.set i undef)[q]? =some z:=by grind
        by_cases l:q=i
        .grind[undef,cu]
        grind
      .simp[bS _ _ G] at hj;rw[c8 _ _ (eB G)]
       exact V.apart _ j _ _ S hj G g (by grind[j8]))
    exact hK _ _ _ _ (r2.set (λi hi=>by simp_all) (Qa hsl))
   grind
  grind
 grind
def Uh {q:Type}:∀{l:List q} {k:Nat} {a:q},l[k]? =some a->l.set k a=l
 |[],_,_,h=>by simp at h
 |x::l,0,a,h=>by simp_all
 |x::l,k+1,a,h=>by simp at h;simp[Uh h]
def DF {q k:Nat} {u:Value} (U:k<q) (F:rep μ .hole u):∀{xs:List (List AV)} {B:List Value} {i:Nat},cV μ q xs B->i<xs.length->(∀c∈xs,c[k]? =some AV.hole)->
  cV μ q xs (B.set (i *q+k) u)/\i *q+k<B.length
 |[],_,_,_,h,_=>by simp at h
 |x::xs,B,i,⟨O,ws,e,D,H,I⟩,hi,l=>by subst e;have V:=l x ai;have S:=F;rw[rep] at S;cases i with
  |zero=>
   rw[By,eF,zo _ _ af];refine⟨⟨_,ws,rfl,⟨?_,λz G=> ?_⟩,by simp[H],I⟩,aH⟩
   .have:=Ll D.1 (i:=k) F;rwa[Uh V] at this
   .rcases xk G with G|rfl
    .exact D.2 z G
    simp_all
  |succ i=>
   obtain⟨r1,r2⟩:=DF U F I (i:=i) (by simp_all) λc R=>l c (by simp[R])
   have e1:(i+1) *q+k-O.length=i *q+k:=by rw[mY];omega
   rw[nt _ _ (by grind),e1];exact⟨⟨O,_,rfl,D,H,r1⟩,by grind⟩
def TV {e:TypeId} {H:Nat} {m u:Value} {n p:Nat} {B:List Value} (h:w.ownsRow 0 e H m n B) (hp:p<B.length) (hu:u.oneCell'=true):
  ∃g z q,m= .slice (some ⟨g,0,none⟩) n z/\(storeCells ⟨g,p,none⟩ [u] 0).run P w= .ok () q/\q.ownsRow 0 e H m n (B.set p u)/\(∀b,b≠g->q.heap[b]? =w.heap[b]?)/\q.os=w.os/\q.tape=w.tape/\q.output=w.output/\q.heap.size=w.heap.size/\q.drawn=w.drawn:=by
 rcases h.2 with⟨_,D⟩|⟨g,z,l,e1,_,F,O,R,V,G⟩
 .have:=h.1;simp_all
 .have U:p<l.size:=by
   have D:=aP List.length G;simp at D;omega
  refine⟨g,_,_,e1,xb P g p e _ 0 _ w F aH (by simp_all),⟨by simp[h.1], .inr ⟨g,_,_,e1,cS _,BA w g _ _ e _ F,O,R,?_,?_⟩⟩,λb S=>xd w g b _ S,rfl,rfl,rfl,by simp,rfl⟩
  .simp;omega
  .have I:l.toList.take (p+0)++[u]++l.toList.drop (p+0+[u].length)=l.toList.set p u:=by
    rw[Hu,aB af];simp
   rw[I,List.take_set,G]
def T3 {o:Oper} {t:TypeId} {x y:Operand} {id sz i B j:Nat} (I:Rel N w0 μ0 L μ loc st a w) (GA:o.dst=none) (ho:o.op= .store t x y) (hx:bI P 0 st x=some (.rp id sz i B)) (hy:bI P t st y=some (.row j))
  (h:Ia P st t id sz i B j=some st') (hK:oP N w0 μ0 L st' K):o.wU P a w K Q:=by
 unfold Ia at h;split at h
 .rename_i e sz' k e' s' xs ys e2 s2 zs hagg hsz U D;cases G:(Nat.beq sz sz'&&Nat.beq B k&&Nat.blt id 10000&&Nat.blt j 10000&&Nat.beq e' e2&&Nat.beq s' s2&&Nat.blt i ys.length&& !(Nat.beq id j)) with
  |false=>simp_all
  |true=>
  rw[G] at h;simp only[au,bg] at h;subst h;simp only[aU,jw] at G;obtain⟨⟨⟨⟨⟨⟨⟨b1,b2⟩,b3⟩,b4⟩,b5⟩,b6⟩,b7⟩,b8⟩:=G;have c1:=beq_iff.1 b1;have c2:=beq_iff.1 b2;have c5:=beq_iff.1 b5;have c6:=beq_iff.1 b6;subst c1 c2 c5 c6;have hne:id≠j:=λe=>by simp_all
  have hid:id<10000:=cK.mp b3;have hj:j<10000:=cK.mp b4;have hil:i<ys.length:=cK.mp b7;obtain⟨g,n,c,O,hxa⟩:=aW I hx;have VG:a.eval y=loc j:=(aW I hy:a.eval y=fW (loc j)).trans (jC (I.obs j _ D));obtain⟨cells,hrow,ZJ,hgj⟩:=I.obs j _ D;obtain⟨m,us,vs,hl,hm,hown,hrc,hk,h2,h3,h4,h5,h6,h7⟩:=I.obs id _ U;have VE:m= .slice (some ⟨g,0,none⟩) n c:=by rw[hl] at O;exact O
  have S:rep μ .hole (loc j):=by rcases hrow.2 with⟨e1,_⟩|⟨g',cap,cur,e1,_⟩<;>rw[e1]<;>simp[rep,Value.oneCell',Value.cells]
  have V:(loc j).oneCell'=true/\(loc j).cells= #[loc j]:=by simpa[rep] using S
  obtain⟨ab1,hp⟩:=DF hk.1 S hrc (i:=i) af hk.2;obtain⟨g',cap,w',e1,hrun,hown',hch,hos,htape,hout,hsize,hdr⟩:=TV (P:=P) hown hp V.1;have eg:g=g':=by rw[VE] at e1;simp at e1;exact e1.1
  subst eg;have hin:∀q,mE (loc j) q->cu (loc j)=some q:=λq l=>by rcases hrow.2 with⟨e1,_⟩|⟨g',cap,cur,e1,_⟩<;>rw[e1] at l⊢<;>exact iJ.1 l
  have R:∀q,cu (loc j)=some q->¬mE (loc id) q:=λq l=>I.apart j id _ _ D U (eB hne) q (.inl l)
  have hbm:∀q,cu (loc j)=some q->cu m≠some q:=λq l e=>R q l (by rw[hl];exact j8.2 (.inl e))
  have hbu:∀u∈us,∀q,cu u=some q->cu (loc j)≠some q:=λu hu q l e=>R q e (by rw[hl];exact j8.2 (.inr ⟨u,hu,l⟩))
  have hmg:cu m=some g:=by rw[VE];rfl
  refine Mj (w':=w') (by
   unfold execOp;rw[ho];have h1:(a.eval y).cells.size=1:=by rw[VG,V.2];rfl
   have h2:(a.eval y).cells.toList=[loc j]:=by rw[VG,V.2]
   simp only[Instr.storeAt,hxa,Instr.sureAddr,jm,tL,kJ,storeVar,kQ hsz,h1,h2,ne_eq,BB,gG,hrun]) ?_
  rw[GA];have hob1:((st.dG j).dG (id+40000)).ob id=some (.rn e sz B e' s' xs ys):=by have hne2:id+40000≠id:=af;simp[St.dG,bS _ _ (eB hne),bS _ _ hne2,U,Ob.dG]
  have hnm:∀(s:SV) (q:Nat),(s.dG q).mentions q=false:=λs q=>by unfold SV.dG;cases h:s.mentions q with
   |true=>rfl
   |false=>exact h
  have iu:i<us.length:=af
  refine hK _ _ _ _ (((I.PZ j).PZ (id+40000)).relay (id:=id) (o':= .rn e sz B e' s' xs (ys.set i (some zs))) (val:= .tuple (m::us.set i (loc j)).toArray) (g:=g) (w':=w') hob1 hl (by rw[hl];rfl) hid (by rw[hl];exact j8.2 (.inl hmg)) hch hos htape hout hsize ?_ (λq oj l H z F hzq=> ?_) (.inr ⟨λt s hs=>by
   simp only[St.dG,cL] at hs;obtain⟨s',_,rfl⟩:=hs;exact hnm _ _,λt o ho'=>by
   by_cases e:id+40000=t
   .subst e;simp[St.dG,cW] at ho'
   .simp only[St.dG,bS _ _ e,cL] at ho';obtain⟨o1,_,rfl⟩:=ho';cases o1<;>simp only[Ob.dG,noAt];intro c hc;obtain⟨c',_,rfl⟩:=aD.1 hc
    exact hnm _ _⟩) (λ_=>by omega))
  .have split:∀q z,(us.set i (loc j))[q]? =some z->us[q]? =some z/\q≠i\/q=i/\z=loc j:=λq z F=>by
    by_cases l:q=i
    .subst l;rw[mZ iu] at F;injection F with F;exact .inr ⟨rfl,F.symm⟩
    .rw[ng (eB l)] at F;exact .inl ⟨F,l⟩
   refine⟨m,us.set i (loc j),vs.set (i *sz+B) (loc j),dc _ _ _,hm,hown',ab1,hk,by simp[h2],by simp[h3],λq zs' l=> ?_,λq l=> ?_,λz F q l=> ?_,λq q' z z' F hz' hqq b G hb'=> ?_⟩
   .by_cases H:q=i
    .subst H;rw[mZ hil] at l;simp only[bg] at l;subst l;refine⟨loc j,cells,by rw[mZ iu],by rw[mZ hp],qj hrow (λb G=>hch b λe=>by subst e;exact hbm b G hmg),ZJ,λb G=> ?_⟩;obtain⟨m1,m2⟩:=hgj b (.inl G);exact⟨(I.D9 hj m1).imp (λh=>h) .inl,m2⟩
    .rw[ng (eB H)] at l;obtain⟨u',cells',m1,m2,m3,m4,m5⟩:=h4 q zs' l;have hpq:i *sz+B≠q *sz+B:=λe=>H (Nat.eq_of_mul_eq_mul_right (nv (cS _) hk.1) af)
     exact⟨u',_,by grind,by rw[ng hpq];exact m2,qj m3 (λb G=>hch b λe=>by grind),m4,m5⟩
   .grind
   .grind
   .rcases split q z F with⟨hu2,_⟩|⟨e1,e2⟩<;>rcases split _ _ hz' with⟨hv2,_⟩|⟨e3,e4⟩
    .exact h7 q _ z _ hu2 hv2 hqq b G hb'
    .rw[e4] at hb';exact hbu z (aV hu2) b G hb'
    .rw[e2] at G;exact hbu _ (aV hv2) b hb' G
    .exact hqq (e1.trans e3.symm)
  .have hq4:id+40000≠q:=λe=>by subst e;simp[St.dG,cW] at l
   rw[St.dG] at l;simp[bS _ _ hq4,cL] at l;obtain⟨oj0,l,_⟩:=l;have hqj:q≠j:=λe=>by simp_all[St.dG,cW]
   simp[St.dG,bS _ _ (eB hqj),cL] at l;obtain⟨oj',hq',_⟩:=l;rcases j8.1 F with F|⟨u,hu,F⟩
   .exact I.apart _ q _ _ U hq' (eB H) z (by grind[j8]) hzq
   .rcases xk hu with hu|rfl
    .exact I.apart _ q _ _ U hq' (eB H) z (by grind[j8]) hzq
    .exact I.apart j q _ _ D hq' (eB hqj) z (.inl F) hzq
 grind
def Pz {o:Oper} {x:Operand} {id d:Nat} (q:Rel N w0 μ0 L μ loc st a w) (hd:d<N) (z:o.dst=some d) (ho:o.op= .assign x) (hx:bI P o.type st x=some (.row id)) (h:Wi st id d=some st') (U:oP N w0 μ0 L st' K):o.wU P a w K Q:=by
 unfold Wi at h;split at h
 .rename_i e sz xs l;cases B:Nat.beq _ d with
  |true=>rw[B] at h;simp at h;subst h;have:=beq_iff.1 B;subst this;have S :=(aW q hx).trans (jC (q.obs _ _ l));refine jg (v:=loc id) (w':=w) (by simp_all[execOp]) ?_;rw[z];exact U _ _ _ _ (q.set (λi hi=>by simp_all) ((jC (q.obs _ _ l)).symm))
  |false=>
  rw[B] at h;cases V:Nat.blt id 10000 with
  |false=>simp_all
  |true=>
   rw[V] at h;simp at h;subst h;have I :=cK.mp V;have H :=fG hd q.small;have S :=(aW q hx).trans (jC (q.obs _ _ l));obtain⟨vs,hown,R,hm⟩:=q.obs _ _ l;have D:=jC (q.obs _ _ l);refine jg (v:=loc id) (w':=w) (by simp_all[execOp]) ?_;rw[z]
   have r1:=(q.PZ id).new (o:= .row e _ _) (.inl H) (by
     refine⟨vs,by rw[dc];omega,R,λg G=> ?_⟩;rw[dc] at G;obtain⟨m1,m2⟩:=hm g G
     exact⟨(q.D9 I m1).imp (λh=>h) .inl,m2⟩) (λj oj hj hjd g G=>by
     by_cases F:id=j
     .simp_all[St.dG,cW]
     .simp[St.dG,bS _ _ F,cL] at hj;obtain⟨oj',O,_⟩:=hj
      exact q.apart _ j _ _ l O F g G)
   exact U _ _ _ _ (r1.set (λi hi=>by simp_all) (Qa D))
 grind
end
