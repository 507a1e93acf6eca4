/- THE ABSTRACT MACHINE. -/
import Derived.Test.YthphfjcnkinkpaaGreatDoorAmStep
set_option linter.all false
open List (replicate)
namespace Go.AM
open Go.RowKit
section
variable {μ μ':Mu} {loc:Nat->Value}
theorem AJ {D b:Nat} {xs:List (List AV)} {z:List Value} {l:Nat} (h:dc μ D xs z) (q:μ.le μ') (H:∀j u,z[j]? =some u->μ' b (l+j)=some u):lH μ' D b xs l:=by induction xs generalizing z l with
 |nil=>simp[lH]
 |cons x xs O=>
  obtain⟨R,ws,rfl,B,F,G⟩:=h;refine⟨⟨R,(B.mono q).1,B.2,F,λj u I=>H j u ?_⟩,O G λj u I=> ?_⟩
  .grind
  simp_all[gD,nj]
def oy {q:Nat} {xs B:List (List AV)} {l z:List Value} (h:dc μ q xs l) (k:dc μ q B z):dc μ q (xs++B) (l++z):=by induction xs generalizing l with
 |nil=>have:l=[]:=h;simp_all
 |cons x xs H=>obtain⟨a,b,rfl,D,F,G⟩:=h;exact⟨a,_,by simp,D,F,H G⟩
def qV {sz:Nat} {z:List AV} {l:List Value} (h:lF μ z l) (q:l.length=sz):∀n,dc μ sz (replicate n z) (replicate n l).flatten
 |0=>rfl
 |n+1=>⟨l,_,by rfl,h,q,qV h q n⟩
def AK {z:Nat}:∀(n:Nat) {l:List AV} {q:List Value},lF μ l q->l.length=n *z->dc μ z (chunks z n l) q
 |0,l,q,h,B=>by have :=lV (by rw[h.length];omega);assumption
 |n+1,l,q,h,B=>by rw[jR] at B;have D:=h.length;exact⟨_,_,by simp,h.take _,by simp;omega,AK n (h.drop _) aI⟩
def Ff {z:List AV} {l:List Value} (h:lF μ z l):∀n,lF μ (tW z n) (replicate n l).flatten
 |0=>⟨dY,ai⟩
 |n+1=>by simpa[tW,mb] using h.append (Ff h n)
theorem AI (z:List AV):∀n,(tW z n).length=n *z.length
 |0=>by simp[tW]
 |n+1=>by simp[tW,AI z n,jR];omega
def CS (q:Nat):∀(n:Nat) (l:List AV),(chunks q n l).length=n
 |0,_=>rfl
 |n+1,l=>by simp[chunks,CS _ n]
theorem iT {id:Nat} {s:SV} {v:Value} (k:fW μ loc s v):fW μ loc (s.dH id) v:=by unfold SV.dH;cases s.mentions _ with
 |true=>trivial
 |false=>exact k
def PO {id:Nat} {s:SV} {v:Value} {x:AV} (k:fW μ loc s v) (D:rep μ x (gp (loc id))):fW μ loc (s.dy id x) v:=by cases s with
 |row j=>cases h:Nat.beq j id with
  |true=>simp[SV.dy,h];have:=beq_iff.1 h;subst this;have e :=k;rw[e];exact D
  |false=>simp_all[SV.dy]
 |ag q=>
  by_cases l:∃j,q=[.r j]
  .obtain⟨j,rfl⟩:=l;cases h:Nat.beq j id with
   |true=>simp only[SV.dy,h,ak];have:=beq_iff.1 h;subst this;obtain⟨H,e,⟨u,G,F,B,z⟩,l⟩:=k;have z:G=[]:=z;subst z F;have B:u=gp (loc j):=B;exact⟨[u],e,cT (B▸D) dY,l⟩
   |false=>simpa only[SV.dy,h,aA] using k
  .have:(SV.ag q).dy id x=(SV.ag q).dH id:=by
    unfold SV.dy;split
    .rename_i e;cases e
    .rename_i j e;cases e;exact absurd ⟨j,rfl⟩ l
    .rfl
   rw[this];exact iT k
 |_=>exact iT k
def rowS' {id:Nat} {v u:Value} (h:gp v=u):fW μ (qN loc id v) (.row id) u:=by show u=gp _;rw[di,h]
def PT {id:Nat} {v:Value} (h:gp v=v):fW μ (qN loc id v) (.row id) v:=by show v=gp _;rw[di,h]
theorem vm (l:Array Value) (s:Nat) (F:l.size=s) (D:0<s) (n:Nat):(madeCells l (n *s)).toList=(replicate n l.toList).flatten:=by
 have key:∀n,(List.range (n *s)).map (λi=>l[i % s]!)=(replicate n l.toList).flatten:=by intro n;induction n with
  |zero=>simp
  |succ n G=>
   rw[nt,kN,wM];have q:(List.range s).map (λi=>l[i % s]!)=l.toList:=by
    apply kO;intro i;by_cases B:i<s
    .simp_all[Nat.mod_eq_of_lt]
    .simp_all
   have z:((λi=>l[i % s]!)∘λx=>s+x)=λi=>l[i % s]! :=by funext i;simp
   grind
 simp_all[madeCells]
theorem Rh (q:List Value) {l c:Nat} (h:l<=c):(replicate c q).flatten.take (l *q.length)=(replicate l q).flatten:=by obtain⟨d,rfl⟩:=Nat.exists_eq_add_of_le h;rw[<-List.replicate_append_replicate,List.flatten_append];simp_all[gK]
end
section
variable {P:Program} {N:Nat} {w0:World} {μ0:Mu} {L:s8} {μ:Mu} {loc:Nat->Value} {st st':St} {a:Act} {w:World} {Q:Exit->Act->World->Prop} {K:Act->World->Prop}
theorem Fg {e G:Nat} {xs:List (List AV)} {u:Value} {cells:List Value} (l:w.ownsRow 0 e G u xs.length cells) (z:dc μ G xs cells) {μ':Mu} (D:μ.le μ')
  (R:∀b j v,cu u=some b->HF w b j=some v->μ' b j=some v):rep μ' (.dG G xs) u:=by
 have q:=kL z;rw[rep];rcases l.2 with⟨e1,S⟩|⟨g,I,O,e1,_,U,F,B,_⟩
 .grind
 .refine⟨_,_,e1,F,B, .inr ⟨g,0,rfl,AJ z D λj u H=> ?_⟩⟩;have:=l.cells (by rw[e1];rfl) j u H;rw[add_lit] at this;exact R g _ u (by rw[e1];rfl) (xz this (q u (aR H)))
def G1 {z:Type}:∀{q:List (Option z)} {l:List z},qH q=some l->q=l.map some
 |[],l,h=>by simp_all[qH]
 |none::q,l,h=>by simp[qH] at h
 |some x::q,l,h=>by simp[qH,cH] at h;obtain⟨D,B,rfl⟩:=h;simp[G1 B]
def KP {l:List AV}:∀{k:Nat} {q:List Value} {u:Value} {a:AV},cS μ l q->q[k]? =some u->rep μ a u->cS μ (l.set k a) q:=by induction l with
 |nil=>simp_all
 |cons c l H=>intro k q u a h D B;obtain⟨v,F,rfl,G,z⟩:=h;cases k with
  |zero=>simp at D;subst D;exact⟨v,F,rfl,B,z⟩
  |succ k=>exact⟨v,F,rfl,G,H z (by assumption) B⟩
def AL {k F D:Nat} {μ':Mu} (B:μ.le μ') (S:k<F):∀{xs:List (List AV)} {l:List (List (List AV))} {z:List Value},dc μ F xs z->xs.length=l.length->
  (∀(i:Nat) G,l[i]? =some G->∃u,z[i *F+k]? =some u/\rep μ' (.dG D G) u)->dc μ' F (wG k D xs l) z
 |[],[],z,h,_,_=>h
 |[],_::_,z,_,h,_=>by simp at h
 |_::_,[],z,_,h,_=>by simp at h
 |x::xs,y::l,z,⟨us,ws,e,H,O,R⟩,hl,q=>by subst e;obtain⟨u,I,U⟩:=q 0 y ai;rw[Bb,eO,fV af] at I;refine⟨us,ws,rfl,⟨KP (gF B _ _ H.1) I U,H.2⟩,O,AL B S R (by simp_all) λi G hi=> ?_⟩;obtain⟨u2,hu2,V⟩:=q (i+1) _ (by assumption);grind
def Dh {k q:Nat}:∀{xs:List (List AV)} {l:List (List (List AV))},xs.length=l.length->(wG k q xs l).length=xs.length
 |[],[],_=>rfl
 |[],_::_,h=>by simp at h
 |_::_,[],h=>by simp at h
 |x::xs,y::l,h=>by simp[wG,Dh (xs:=xs) (l:=l) (by simp_all)]
def Ro {n0:Nat} {id:Nat} {o:Ob} {v:AV} (h:nY n0 L μ loc w id o) (B:o.val=some v) {μ':Mu} (q:μ.le μ')
  (O:∀b j v,mG (loc id) b->HF w b j=some v->μ' b j=some v):rep μ' v (gp (loc id)):=by
 cases o with
 |box t cells=>simp[Ob.val] at B
 |lp s=>simp[Ob.val] at B
 |row e sz xs=>simp only[Ob.val,bq] at B;subst B;rw[jF h];obtain⟨vs,z,D,_⟩:=h;exact Fg z D q (λb j v S=>O b j v (.inl S))
 |mp k e ks es=>simp only[Ob.val,bq] at B;subst B;rw[W9 h];obtain⟨b,eS,H,G,_,hh,_,U,R,_⟩:=h;rw[rep,G];exact .inr ⟨b,_,_,rfl,gF q _ _ U,gF q _ _ R,O b 0 _ (by rw[G];exact zN.2 rfl) (WJ hh)⟩
 |rn e sz k e' sz' xs ys=>
  simp[Ob.val,cH] at B;obtain⟨l,I,rfl⟩:=B;obtain⟨m,us,vs,G,_,z,D,hk,R,h3,V,h5,h6,h7⟩:=h;have hvs:=G1 I;have F:xs.length=l.length:=by simp_all
  rw[G];show rep _ _ m;refine Fg (by rw[Dh F];omega) (AL q hk.1 D F λi zs hi=> ?_) (Mu.le.refl _) λb j v S hs=>O b j v (by simp_all[kg]) hs
  obtain⟨u,cells,k1,k2,k3,k4,k5⟩:=V i zs (by simp_all);grind[Fg,kg]
open Classical in
noncomputable def sC (w:World) (loc:Nat->Value) (id:Nat) (μ:Mu):Mu:=λb j=>if mG (loc id) b then HF w b j else μ b j
def Rel.adV (B:Rel N w0 μ0 L μ loc st a w) {id:Nat} {o:Ob} (H:st.ob id=some o) (hlt:id<10000) (f:SV->SV) (g:Ob->Ob) (hf:∀s v,fW (sC w loc id μ) loc s v->fW (sC w loc id μ) loc (f s) v)
  (hg:∀ob,g ob=match ob with| .box t cells=> .box t (cells.map f)|o=>o):
  μ.le (sC w loc id μ)/\Rel N w0 μ0 L (sC w loc id μ) loc { env:=λi=>(st.env i).map f,ob:=put (λi=>(st.ob i).map g) id none } a w:=by
 have I:=B.obs _ _ H;have hfs:∀(F) (R),gY (sC w loc id μ) loc F R->gY (sC w loc id μ) loc (F.map f) R:=by intro F;induction F with
  |nil=>simp
  |cons c F ih=>rintro R ⟨u,us,e,l,h2⟩;exact⟨u,us,e,hf _ _ l,ih _ h2⟩
 have G:μ.le (sC w loc id _):=λb j v D=>by
  by_cases z:mG (loc id) b
  .have:=(I.block b z).2.2 j;simp_all
  .simpa[sC,z] using D
 have S:∀i O,i≠id->st.ob i=some O->∀b,mG _ b->∀j,sC w loc id _ b j=none:=λi O hne q b z j=>by
  have hn :=λhid=>B.apart _ i _ _ H q (λe=>hne e.symm) b hid z
  simp[sC,az hn];exact(B.obs i _ q).block b z|>.2.2 j
 have l:=(B.drop id).world G (λb j v D=>by
   by_cases z:mG (loc id) b
   .exact .inr (B.DH hlt (I.block b z).1)
   simp_all[sC]) (λb j v D=>by
   by_cases z:mG (loc id) b
   .simpa[sC,z] using D
   .exact B.yc b j v (by simpa[sC,z] using D)) (λi O q b z=>by
   grind[de,bZ]) (λ_ _ _=>rfl) rfl rfl rfl (aZ _)
 refine⟨G,l.small,l.names,l.fix,l.size,l.defers,?_,l.yc,l.base,?_,?_,l.keep,l.os,l.tape,l.output,l.grown,l.drawn⟩
 .intro i s q;cases he:st.env i with
  |none=>simp_all
  |some s'=>simp[he] at q;subst q;obtain⟨v,D,hr⟩:=l.env i _ he;simp_all
 .intro i O q;by_cases U:id=i
  .simp_all[de]
  .simp[bZ _ _ U] at q;cases ho:st.ob i with
   |none=>simp_all
   |some oj=>simp[ho] at q;subst q;have k:=l.obs i oj (by simp_all[bZ]);rw[hg];cases oj with
    |box t cells=>obtain⟨b,R,hl,ho',hh,hm,hs,V⟩:=k;exact⟨b,R,hl,ho',hh,hm,hfs _ _ hs,V⟩
    |row e2 sz2 xs2=>exact k
    |mp k2 e2 ks2 vs2=>exact k
    |lp s2=>exact k
    |rn e2 s2 k2 e3 s3 x2 y2=>exact k
 .intro i j O oj q hj hij;have get:∀k ok,put (λi=>(st.ob i).map g) id none k=some ok->∃ok',st.ob k=some ok':=λk ok hk=>by
   by_cases U:id=k
   .simp_all
   .simp[bZ _ _ U] at hk;cases ho:st.ob k with
    |none=>simp_all
    |some x=>simp
  obtain⟨oi',hi'⟩:=get i _ q;obtain⟨oj',hj'⟩:=get j _ hj;exact B.apart i j _ _ hi' hj' hij
def adU {id:Nat} (h:iK id=true):id<10000:=by simp_all[iK]
theorem Rel.dy (I:Rel N w0 μ0 L μ loc st a w) {id:Nat} (h:st.dy id=some st'):∃μ',μ.le μ'/\Rel N w0 μ0 L μ' loc st' a w:=by
 unfold St.dy at h;split at h
 .rename_i v G q;injection h with h;subst h;obtain⟨o,l,D⟩:=dA.1 q;have z:=I.obs _ _ l;have H:μ.le (sC w loc id _):=λb j v S=>by
   by_cases F:mG (loc id) b
   .have:=(z.block b F).2.2 j;simp_all
   .simpa[sC,F] using S
  have B :=Ro z D H λb j v F O=>by simpa[sC,F] using O
  exact⟨_,I.adV l (adU G) _ _ (λs u R=>PO R B) (λU=>by rfl)⟩
 grind
def Rel.qy (F:Rel N w0 μ0 L μ loc st a w) {id:Nat} (h:st.qy id=some st'):∃μ',μ.le μ'/\Rel N w0 μ0 L μ' loc st' a w:=by
 unfold St.qy at h;split at h
 .rename_i t cells H z;split at h
  .rename_i cs G;injection h with h;subst h;obtain⟨b,vs,U,ho,hh,hm,l,S⟩:=F.obs _ _ z;have I:μ.le (sC w loc id μ):=λR j v hv=>by
    by_cases hb:mG (loc id) R
    .have:=((F.obs _ _ z).block _ hb).2.2 j;simp_all
    simp_all[AM.sC]
   have hc:lF _ _ _:=⟨gF I _ _ (G0 G l),S⟩
   refine⟨_,F.adV z (adU H) _ _ (λs u l=> ?_) (λob=>by rfl)⟩;cases s with
   |ptr j O=>simp[SV.qy];cases hj:Nat.beq j _ with
    |false=>exact l
    |true=>
     have:=beq_iff.1 hj;subst this;obtain⟨R,D,rfl⟩:=l;rw[U] at D;obtain⟨rfl,_⟩:=D;refine⟨b,_,_,rfl,hc.drop _,λk u V=> ?_⟩;rw[wK] at V;have e:mG (loc j) b:=by rw[U];exact EJ.2 rfl
     simp[AM.sC,aB e];exact xz (by rw[cell_of_row w b _ _ t _ hh];simp_all) (S u (aR V))
   |undef=>assumption
   |any=>assumption
   |pv x=>assumption
   |row j=>exact iT l
   |rp j sz i O=>exact iT l
   |sub j sz lo hi=>exact iT l
   |cp c=>assumption
   |cl f B=>exact iT l
   |ag B=>exact iT l
   |aq j q=>exact iT l
   |two s b=>exact iT l
   |three s b c=>exact iT l
  grind
 grind
def Mm (S:Rel N w0 μ0 L μ loc st a w):∀{xs:List Operand} {st st':St} {μ:Mu},Rel N w0 μ0 L μ loc st a w->xq st xs=some st'->∃μ',μ.le μ'/\Rel N w0 μ0 L μ' loc st' a w:=by intro xs;induction xs with
 |nil=>grind[xq,Mu.le.refl]
 |cons x xs B=>intro st st' μ h l;cases x with
  |tmp i=>
   simp[xq] at l;split at l
   .rename_i id H U;cases G:st.qy id with
    |none=>simp_all
    |some I=>rw[G] at l;obtain⟨O,q,D⟩:=h.qy G;obtain⟨R,z,F⟩:=B D l;exact⟨_,q.trans z,F⟩
   grind
  |const v=>exact B h l
  |func f=>exact B h l
  |global g=>exact B h l
def Wd (F:Fence):Prop:=F.plain=Fence.wide
def Wd.fn {F:Fence} (h:Wd F) (f:FuncId):F.fn f:=by
 have:F.plain.fn=Fence.wide.fn:=aU _ h
 have:F.fn=Fence.wide.fn:=this
 rw[this];trivial
def Wd.depth {F:Fence} (h:Wd F):F.depth=none:=by
 have:F.plain.depth=Fence.wide.depth:=aU _ h
 exact this
def Wd.one {F:Fence} (h:Wd F) {p:Prop}:F.depth.isSome=true->p:=λe=>by rw[h.depth] at e;cases e
theorem Wd.plain {F:Fence} (h:Wd F) (l:F.round=none):F=Fence.wide:=by have:=h;unfold Wd Fence.plain at this;rw[<-l] at this;omega
def Wd.wide:Wd Fence.wide:=rfl
end
end Go.AM
namespace Go
def Oper.wJ (P:Program) (o:Oper) (a:Act) (w:World) (K:Act->World->Prop) (Q:Exit->Act->World->Prop):Prop:=∀F,AM.Wd F->o.wpIn F 0 P a w K Q
end Go
namespace Go.AM
open Go.RowKit
section
variable {P:Program} {N:Nat} {w0:World} {μ0:Mu} {L:s8} {μ:Mu} {loc:Nat->Value} {st st':St} {a:Act} {w:World} {Q:Exit->Act->World->Prop} {K:Act->World->Prop}
def LU {o:Oper} {x:Next} {w':World} (l:∀c,o.op≠ .defer c) (z:(execOp a.eval o).run P w= .ok x w') (h:∀F,Wd F->o.uponIn F 0 P a K Q (.ok x w')):o.wJ P a w K Q:=λF q=>by unfold Oper.wpIn;rw[Oper.semAt_eq _ _ _ l,z];exact⟨λf _=>q.fn f,h F q⟩
def LV {o:Oper} {w':World} (l:(execOp a.eval o).run P w= .ok .skip w') (q:K (a.put o.dst undef) w'):o.wJ P a w K Q:=
 LU (λc B=>by unfold execOp at l;cases D:(resolve a.eval c o.type).run P w with
  |ok d z=>simp_all
  |halt e z=>simp_all) l λ_ _=>q
def jj {o:Oper} {v:Value} {w':World} (l:(execOp a.eval o).run P w= .ok (.value v) w') (q:K (a.put o.dst v) w'):o.wJ P a w K Q:=
 LU (λc B=>by unfold execOp at l;cases D:(resolve a.eval c o.type).run P w with
  |ok d z=>simp_all
  |halt e z=>simp_all) l λ_ _=>q
def oS (N:Nat) (w0:World) (μ0:Mu) (L:s8) (st':St) (K:Act->World->Prop):Prop:=∀q z μ' l,Rel N w0 μ0 L μ' l st' q z->K q z
def qF (z:Rel N w0 μ0 L μ loc st a w) {o:Oper} {l:SV} (B:∀i,o.dst=some i->i<N) (D:oR P μ loc o l a w) (q:oS N w0 μ0 L (st.set o.dst l) K):o.wJ P a w K Q:=by obtain⟨v,F,G⟩:=D;exact jj F (q _ _ _ _ (z.set B G))
def xU (l:Rel N w0 μ0 L μ loc st a w):∀b,w.heap.size<=b->∀j,μ b j=none:=λb z j=>by cases q:μ b j with
 |none=>rfl
 |some v=>have:=sO (l.yc b j v q);omega
def wU (w:World) (o:Obj):Below w.heap.size w (w.alloc o):=(ic _ _).alloc (aZ _) o
def Rel.made (q:Rel N w0 μ0 L μ loc st a w) {d:Nat} (G:d<N) {x:Obj} {val:Value} {o:Ob} {B:SV} (l:∀g,mG val g->g=w.heap.size)
  (z:nY w0.heap.size L μ (qN loc d val) (w.alloc x) d o) (R:fW μ (qN loc d val) B val):
  Rel N w0 μ0 L μ (qN loc d val) ((st.new d o).set (some d) B) (a.put (some d) val) (w.alloc x):=by
 have D:=(q.abz (wU w x)).new (.inl (fH G q.small)) z (λj U I O g H=>by
  have:=l g H;intro F;have:=((q.obs j _ I).block _ F).2.1
  omega)
 exact D.set (λi S=>by simp_all) R
def Rel.made' (q:Rel N w0 μ0 L μ loc st a w) {d:Nat} (G:d<N) {x:Obj} {val u:Value} {o:Ob} {B:SV} (l:∀g,mG val g->g=w.heap.size)
  (z:nY w0.heap.size L μ (qN loc d val) (w.alloc x) d o) (R:fW μ (qN loc d val) B u):
  Rel N w0 μ0 L μ (qN loc d val) ((st.new d o).set (some d) B) (a.put (some d) u) (w.alloc x):=by
 have D:=(q.abz (wU w x)).new (.inl (fH G q.small)) z (λj U I O g H=>by
  have:=l g H;intro F;have:=((q.obs j _ I).block _ F).2.1
  omega)
 exact D.set (λi S=>by simp_all) R
def Et {o:Oper} {t:TypeId} {d:Nat} {v:Value} {cells:List SV} (q:Rel N w0 μ0 L μ loc st a w) (D:d<N) (l:o.dst=some d)
  (F:(execOp a.eval o).run P w= .ok (.value (.pointer (some ⟨w.heap.size,0,none⟩))) (w.alloc (.cells v.cells t)))
  (G:gY μ (qN loc d (.pointer (some ⟨w.heap.size,0,none⟩))) cells v.cells.toList) (z:∀u∈v.cells.toList,u.oneCell'=true)
  (B:oS N w0 μ0 L ((st.new d (.box t cells)).set (some d) (.ptr d 0)) K):o.wJ P a w K Q:=by
 refine jj F ?_;rw[l];refine B _ _ _ _ (q.made D (by simp[mG,cu]) ?_ ?_)
 .refine⟨_,_,di _ _ _, .inl q.grown,?_,xU q _ (aZ _),G,z⟩;exact rf w _
 .exact⟨_,di _ _ _,rfl⟩
def Wp (S:Rel N w0 μ0 L μ loc st a w) {s:SV} {v:Value} (h:ow st s=true) (k:fW μ loc s v):v.oneCell'=true/\v.cells= #[v]:=by cases s with
 |undef=>simp[ow] at h
 |any=>simp[ow] at h
 |pv x=>cases x with
  |agg O=>simp[ow] at h
  |gX O=>simp[ow] at h
  |self n=>simp[fW,rep] at k
  |pG=>subst k;exact⟨rfl,rfl⟩
  |tU=>subst k;exact⟨rfl,rfl⟩
  |hole=>assumption
  |bool b=>subst k;exact⟨rfl,rfl⟩
  |int q n=>subst k;exact⟨rfl,rfl⟩
  |str q=>subst k;exact⟨rfl,rfl⟩
  |dG G xs=>obtain⟨A,c,rfl,_⟩:=k;exact⟨rfl,rfl⟩
  |fn f B=>obtain⟨F,rfl,_⟩:=k;exact⟨rfl,rfl⟩
  |ref O=>obtain⟨b,D,F,rfl,_⟩:=k;exact⟨rfl,rfl⟩
  |mp ks es=>rcases k with⟨rfl,_⟩|⟨b,kv,ev,rfl,_⟩<;>exact⟨rfl,rfl⟩
 |ptr id D=>obtain⟨b,_,rfl⟩:=k;exact⟨rfl,rfl⟩
 |row id=>
  simp[ow] at h;split at h
  .rename_i e G xs l;obtain⟨F,z,_⟩:=S.obs _ _ l;have e :=k;rcases z.2 with⟨e1,_⟩|⟨g,H,R,e1,_⟩<;>(rw[e,e1];exact⟨rfl,rfl⟩)
  .rename_i k' V ks F l;obtain⟨b,eS,I,U,_⟩:=S.obs _ _ l;have e :=k;rw[e,U];exact⟨rfl,rfl⟩
  .rename_i V G q e2 s2 xs ys l;obtain⟨m,us,F,U,_,z,_⟩:=S.obs _ _ l;have e:v=m:=(k).trans (by rw[U];rfl);rcases z.2 with⟨e1,_⟩|⟨g,H,R,e1,_⟩<;>(rw[e,e1];exact⟨rfl,rfl⟩)
  grind
 |rp id G i D=>obtain⟨g,n,c,_,rfl⟩:=k;exact⟨rfl,rfl⟩
 |sub id G lo hi=>simp[ow] at h
 |two s b=>simp[ow] at h
 |three s b c=>simp[ow] at h
 |cp O=>obtain⟨b,D,F,rfl,_⟩:=k;exact⟨rfl,rfl⟩
 |cl f B=>obtain⟨F,rfl,_⟩:=k;unfold clV;cases Nat.blt f _ with
  |true=>exact⟨rfl,rfl⟩
  |false=>cases Nat.blt f _ with
   |true=>exact⟨rfl,rfl⟩
   |false=>split<;>exact⟨rfl,rfl⟩
 |ag B=>simp[ow] at h
 |aq j q=>simp[ow] at h
def tj {loc:Nat->Value}:∀{caps:List oJ} {l:List Value},kK μ loc caps l->gY μ loc (caps.map JC) l
 |[],l,h=>h
 |c::D,l,⟨u,B,e,q,z⟩=>by refine⟨u,B,e,?_,tj z⟩;cases c with
  |v a=>exact q
  |p id=>exact q
  |r id=>exact q
theorem Pe (hR:Rel N w0 μ0 L μ loc st a w) {t:TypeId} {len:Nat} {l:Array (Nat×Operand)} {e:TypeId} {s:Nat} {xs:List (List AV)} (h:kY P t len l.toList st=some (e,s,xs)):
  ∃vs:List Value,(Instr.buildSlice t len (l.map λp=>(p.1,a.eval p.2))).run P w= .ok (.slice (some ⟨w.heap.size,0,none⟩) len len) (w.alloc (.cells vs.toArray e))/\dc μ s xs vs/\xs.length=len/\len<=maxLen/\0<s:=by
 unfold kY at h;split at h
 .rename_i e' B hs;obtain⟨hu,inf,q,O⟩:=gb hs;split at h
  .rename_i z G hz hps;split at h
   .rename_i hc;obtain⟨I,D,hzl,hnt⟩:=hc;cases hf:yo (λi=>some (i *B,B)) (tW z len) G with
    |none=>simp_all
    |some S=>
     simp[hf] at h;obtain⟨rfl,rfl,rfl⟩:=h;obtain⟨i,v,U,hv,H⟩:=oG (μ:=μ) hz;rw[q] at U;injection U with U;subst U;obtain⟨h1,h2⟩:=x4 hR hps;have hzc :=by have:=H.length;simpa[hzl] using this
     obtain⟨ws,R,hr⟩:=Dv (us:=l.toList.map λp=>(p.1,a.eval p.2)) hf (Ff H _) (by simp_all) (by simp_all[nq]) (λp hp x e=>by
      have:=cI.1 hnt p hp
      rw[e] at this;cases this)
     have hcl:S.length=len *B:=by
      have key:∀(G) (cells S),yo (λi=>some (i *B,B)) cells G=some S->S.length=cells.length:=by intro G;induction G with
       |nil=>simp_all[yo]
       |cons p G ih=>grind[yo]
      grind[AI]
     refine⟨ws,?_,AK _ hr hcl,CS _ _ _,by simp[maxLen];have:len *1<=len *B:=Bc _ D;omega,D⟩;have F:(replicate len v.cells.toList).flatten.toArray=madeCells v.cells (len *B):=by grind[vm]
     rw[F] at R;by_cases V:len *B=0
     .have e0:madeCells v.cells (len *B)= #[]:=by rw[V];simp[madeCells]
      rw[e0] at R;simp[Instr.buildSlice,bW hu,sizeOf,typeInfo,q,O,V,R,newRow,Array.range_zero']
     .simp[madeCells] at R;simp[Instr.buildSlice,bW hu,sizeOf,typeInfo,q,O,V,zeroValue,hv,R,newRow,I]
   grind
  grind
 grind
theorem On {o:Oper} {t:TypeId} {len:Nat} {l:Array (Nat×Operand)} {d e s:Nat} {xs:List (List AV)} (D:Rel N w0 μ0 L μ loc st a w) (R:d<N) (B:o.dst=some d) (S:o.op= .buildSlice t len l)
  (h:kY P t len l.toList st=some (e,s,xs)) (O:oS N w0 μ0 L ((st.new d (.row e s xs)).set (some d) (.row d)) K):o.wJ P a w K Q:=by
 obtain⟨I,U,q,z,G,H⟩:=Pe D h;refine jj (v:= .slice (some ⟨w.heap.size,0,none⟩) len len) (w':=w.alloc (.cells I.toArray e)) (by simp_all[execOp]) ?_;rw[B];refine O _ _ _ _ (D.made R (by simp[mG,cu]) ?_ (PT rfl));refine⟨I,⟨by rw[dg q], .inr ⟨_,_,_,?_,cZ _,rf w _,by omega,G,?_,?_⟩⟩,q,λg F=> ?_⟩
 .rw[di,z]
 .grind[dg]
 .rw[z,<-z,<-dg q];simp
 .rw[di] at F;simp[mG,cu] at F;subst F;exact⟨.inl D.grown,xU D _ (aZ _)⟩
def zU {k:Nat} {c:List AV} (h:qJ k c=true):c[k]? =some .tU:=by grind[qJ]
theorem wB {q k:Nat}:∀{xs:List (List AV)} {z:List Value},dc μ q xs z->xs.all (qJ k)=true->k<q->dc μ q (xs.map λc=>c.set k .hole) z/\∀i,i<xs.length->z[i *q+k]? =some (.slice none 0 0)
 |[],z,h,_,_=>⟨h,λi D=>by simp at D⟩
 |x::xs,z,⟨F,ws,e,B,G,H⟩,l,I=>by subst e;simp only[lZ,aV] at l;have S:=zU l.1;obtain⟨U,V⟩:=wB H l.2 I;obtain⟨v,R,O⟩:=tB B.1 S;subst O;refine⟨⟨F,ws,rfl,⟨KP B.1 R (by simp[rep,Value.oneCell',Value.cells]),B.2⟩,G,U⟩,λi D=> ?_⟩;cases i with
  |zero=>grind
  |succ i=>rw[gD (by grind),show(i+1) *q+k-F.length=i *q+k by grind];simp_all
def Mb {o:Oper} {t:TypeId} {len:Nat} {l:Array (Nat×Operand)} {d e s k e' s':Nat} {xs:List (List AV)} (R:Rel N w0 μ0 L μ loc st a w) (hd:d<N) (G:o.dst=some d) (ho:o.op= .buildSlice t len l)
  (h:kY P t len l.toList st=some (e,s,xs)) (hk:k<s) (B:xs.all (qJ k)=true) (hK:oS N w0 μ0 L ((st.new d (.rn e s k e' s' (xs.map λc=>c.set k .hole) (xs.map λ_=>some []))).set (some d) (.row d)) K):o.wJ P a w K Q:=by
 obtain⟨vs,hr,D,O,hml,hpos⟩:=Pe R h;obtain⟨I,H⟩:=wB D B hk;refine jj (v:= .slice (some ⟨w.heap.size,0,none⟩) len len) (w':=w.alloc (.cells vs.toArray e)) (by simp_all[execOp]) ?_;rw[G];have hown:(w.alloc (.cells vs.toArray e)).ownsRow 0 e s _ _ _:=
  ⟨by rw[dg D,O], .inr ⟨_,_,_,rfl,cZ _,rf w _,by omega,hml,by grind[dg],by rw[<-O,<-dg D];simp⟩⟩
 refine hK _ _ _ _ (R.made' (val:= .tuple (.slice _ _ _::xs.map λ_=> .slice none 0 0).toArray) hd (λg z=> ?_) ?_ (rowS' rfl))
 .rcases kg.1 z with z|⟨u,F,z⟩
  .simp_all[cu]
  .obtain⟨c,_,rfl⟩:=aG.1 F;simp[cu] at z
 .refine⟨_,_,vs,di _ _ _,λq hq=> ?_,by simp_all,I,⟨hk,λc S=> ?_⟩,by simp,by simp,λi zs V=> ?_,λi V=> ?_,λu F g z=> ?_,λi j u v F hv hij g z=> ?_⟩
  .simp[cu] at hq;subst hq;exact⟨.inl R.grown,xU R _ (aZ _)⟩
  .obtain⟨c',U,rfl⟩:=aG.1 S;have:=zU (cI.1 B _ U);grind
  .simp only[dK,cH] at V;obtain⟨c,S,e1⟩:=V;simp at e1;subst e1;exact⟨_,[],by simp[S],H i (bR.1 S).1,⟨ai, .inl ⟨rfl,rfl⟩⟩,rfl,λg z=>by simp[cu] at z⟩
  .simp_all
  .obtain⟨c,_,rfl⟩:=aG.1 F;simp[cu] at z
  .simp at F;obtain⟨c,_,rfl⟩:=F;simp[cu] at z
theorem Vk {o:Oper} {t:TypeId} {len:Nat} {l:Array (Nat×Operand)} {e s:Nat} {xs:List (List AV)} (z:Rel N w0 μ0 L μ loc st a w) (U:∀i,o.dst=some i->i<N) (ho:o.op= .buildSlice t len l)
  (h:kY P t len l.toList st=some (e,s,xs)) (S:oS N w0 μ0 L (st.set o.dst (.pv (.dG s xs))) K):o.wJ P a w K Q:=by
 obtain⟨H,hr,G,hxl,V,O⟩:=Pe z h;refine jj (v:= .slice (some ⟨w.heap.size,0,none⟩) len len) (w':=w.alloc (.cells H.toArray e)) (by simp_all[execOp]) ?_;let μ' :=λb j=>if b=w.heap.size then H[j]? else μ b j
 have F:=xU z;have D:μ.le μ':=λb j v B=>by grind
 have R:=z.grow (w':=w.alloc (.cells H.toArray e)) ⟨D,λb j v B=>by
   grind⟩ (λb j v B=>by
   by_cases I:b=w.heap.size
   .subst I;have q :=by simpa[μ'] using B
    exact xz (by simp[q]) (kL G v (aR q))
   .have q :=by simpa[μ',I] using B
    exact z.TK (wU w _) b j v q) (wU w _)
 refine S _ _ _ _ (R.set U ?_);show rep _ _ _;rw[rep];grind[AJ]
def BQ (D:Rel N w0 μ0 L μ loc st a w):∀{z:List (Nat×Operand)} {i:Nat} {B:List SV},BP P st i z=some B->
  gY μ loc B (z.map λp=>a.eval p.2)/\z.map (·.1)=List.range' i z.length/\B.length=z.length/\∀p∈z,∃q,a.eval p.2= .pointer q
 |[],i,B,h=>by simp[BP] at h;subst h;simp[gY]
 |(j,x)::l,i,B,h=>by
  unfold BP at h;split at h
  .rename_i id off vs' I V;cases F:Nat.beq i j with
   |false=>rw[F] at h;cases h
   |true=>
    rw[F] at h;simp only[ak,bq] at h;subst h;obtain⟨O,R,S,U⟩:=BQ D V;have hv:=bp D I;have G:=wN F;subst G;obtain⟨b,_,e⟩:=hv;refine⟨⟨_,_,rfl,bp D I,O⟩,by simp[ri,R],by simp[S],λp H=> ?_⟩;rcases aS.1 H with rfl|H
    .exact⟨_,e⟩
    .exact U p H
  .cases h
def MY:∀(l:List (Nat×Value)) (pre post:List Value),l.map (·.1)=List.range' pre.length l.length->post.length=l.length->(∀p∈l,p.2.cells= #[p.2])->
  Instr.fill (λi=>some (i *1,1)) (pre++post).toArray l=some (pre++l.map (·.2)).toArray
 |[],pre,post,_,q,_=>by
  have:post=[]:=lV (by simpa using q)
  subst this;simp[Instr.fill]
 |(j,v)::l,pre,[],_,q,_=>by simp at q
 |(j,v)::l,pre,x::post,h,q,B=>by
  simp only[bS,bD,ri,cV] at h;obtain⟨rfl,h⟩:=h;have D:v.cells= #[v]:=B (pre.length,v) ai;have F:=MY l (pre++[v]) post (by simpa using h) (by simpa using q) (λp q=>B p (by simp[q]));simp only[Instr.fill];rw[az (by simp[D])];have e:(Array.foldl (λz (x:Value×Nat)=>z.setIfInBounds (pre.length *1+x.2) x.1) (pre++x::post).toArray v.cells.zipIdx)=(pre++[v]++post).toArray:=by rw[D];simp
  rw[show(v.cells.zipIdx.foldl (λz (c,j)=>z.setIfInBounds (pre.length *1+j) c) (pre++x::post).toArray)=(pre++[v]++post).toArray from e,F];simp
def Sd {o:Oper} {t:TypeId} {len:Nat} {l:Array (Nat×Operand)} {d:Nat} {st':St} (H:Rel N w0 μ0 L μ loc st a w) (hd:d<N) (G:o.dst=some d) (ho:o.op= .buildSlice t len l)
  (h:Pd P st d t len l.toList=some st') (hK:oS N w0 μ0 L st' K):o.wJ P a w K Q:=by
 unfold Pd at h;split at h
 .rename_i e vs hs S;split at h
  .rename_i z0 hz;cases I:(Nat.beq vs.length len&&Nat.blt 0 len&&Nat.blt len 100) with
   |false=>rw[I] at h;cases h
   |true=>
    rw[I] at h;simp only[ak,bq] at h;subst h;simp only[aV,cK] at I;obtain⟨⟨hl,h0⟩,h100⟩:=I;have hl:=wN hl;obtain⟨hu,inf,B,hsz⟩:=gb hs;obtain⟨i,v,O,hv,R⟩:=oG (μ:=μ) hz;rw[B] at O;injection O with O;subst O;have F:v.cells.size=1:=by have:=R.length;simpa using this
    obtain⟨k1,k2,k3,k4⟩:=BQ H S;have U:l.toList.length=len:=af
    have z:=MY (l.toList.map λp=>(p.1,a.eval p.2)) [] (replicate len v.cells.toList).flatten (by simpa[nq] using k2) (by simp[U,F]) (λp S=>by
     obtain⟨q,V,rfl⟩:=aG.1 S;obtain⟨x,e⟩:=k4 q V
     simp[e,Value.cells])
    have D:(replicate len v.cells.toList).flatten.toArray=madeCells v.cells (len *1):=by have:=vm v.cells 1 F af len;rw[<-this]
    simp only[dQ,D] at z;have hrun:(Instr.buildSlice t len (l.map λp=>(p.1,a.eval p.2))).run P w= .ok (.slice (some ⟨w.heap.size,0,none⟩) len len) (w.alloc (.cells ((l.toList.map λp=>a.eval p.2).toArray) e)):=by have hne:¬len *1=0:=af;simp only[madeCells,e8] at z;simp[Instr.buildSlice,bW hu,sizeOf,typeInfo,B,hsz,zeroValue,hv,newRow] at z⊢;rw[az af,az af];simp_all[nq]
    refine jj (v:= .slice (some ⟨w.heap.size,0,none⟩) len len) (w':=w.alloc (.cells ((l.toList.map λp=>a.eval p.2).toArray) e)) (by simp_all[execOp]) ?_;rw[G];refine hK _ _ _ _ (H.made' (val:= .pointer (some ⟨w.heap.size,0,none⟩)) hd (by simp[mG,cu]) ?_ ⟨_,di _ _ _,rfl⟩);refine⟨_,_,di _ _ _, .inl H.grown,rf w _,xU H _ (aZ _),xu _ _ k1,λu hu=> ?_⟩;obtain⟨q,V,rfl⟩:=aG.1 hu;obtain⟨x,e⟩:=k4 q V;simp[e,Value.oneCell']
  .cases h
 .cases h
def abd {o:Oper} {t:TypeId} {l c:Operand} {d e s:Nat} {kl kc:IntKind} {nl D:Int} {z:List AV} {i:TypeInfo} (G:Rel N w0 μ0 L μ loc st a w) (hd:d<N) (O:o.dst=some d) (ho:o.op= .makeSlice t l c)
  (hs:isSlice P t=some (e,s)) (hl:(bP P 0 st l).bind kR =some (.int kl nl)) (hc:(bP P 0 st c).bind kR =some (.int kc D)) (hz:zeroCells P e=some z) (U:P.info? e=some i)
  (F:0<s/\z.length=s/\0<=nl/\nl<=D/\i.bytes *D.toNat<=281474976710656/\D<=9223372036854775807)
  (hK:oS N w0 μ0 L ((st.new d (.row e s (replicate nl.toNat z))).set (some d) (.row d)) K):o.wJ P a w K Q:=by
 obtain⟨hpos,hzl,h0,hlc,hby,h63⟩:=F;obtain⟨hu,S,q,hsz⟩:=gb hs;rw[q] at U;injection U with U;subst U;obtain⟨i',v,B,hv,I⟩:=oG (μ:=μ) hz;rw[q] at B;injection B with B;subst B;have hzc :=by have:=I.length;simpa[hzl] using this
 have hlv:=gO G hl;have V:=gO G hc;rw[rep] at hlv V;have H :=by have e1:((S.bytes *D.toNat:Nat):Int)<=281474976710656:=af;rw[Int.natCast_mul,Int.toNat_of_nonneg af] at e1;exact e1
 have hr:=run_make w t e _ v hu q hv kl kc _ _ h0 hlc H h63;refine jj (v:= .slice (some ⟨w.heap.size,0,none⟩) nl.toNat D.toNat) (w':=w.alloc (.cells (madeCells v.cells (D.toNat *S.size)) e)) (by simp_all[execOp]) ?_;rw[O];refine hK _ _ _ _ (G.made hd (by simp[mG,cu]) ?_ (PT rfl));have R:=qV I af nl.toNat;refine⟨_,⟨dg R, .inr ⟨_,D.toNat,_,?_,cZ _,rf w _,?_,?_,?_,?_⟩⟩,R,λg hg=> ?_⟩
 .rw[di];simp
 .simp;omega
 .simp[maxLen];omega
 .rw[size_madeCells,hsz]
 .grind[vm,Rh,Array.length_toList]
 .rw[di] at hg;simp[mG,cu] at hg;subst hg;exact⟨.inl G.grown,xU G _ (aZ _)⟩
def eff_nil {o:Oper} {d e s:Nat} (q:Rel N w0 μ0 L μ loc st a w) (D:d<N) (l:o.dst=some d) (G:o.op= .assign (.const (.slice none 0 0)))
  (B:oS N w0 μ0 L ((st.new d (.row e s [])).set (some d) (.row d)) K):o.wJ P a w K Q:=by
 refine jj (v:= .slice _ 0 0) (by unfold execOp;rw[G];rfl) ?_;rw[l];refine B _ _ _ _ ((q.new (.inl (fH D q.small)) ?_ (λj O I F g z=>by simp[mG,cu] at z)).set (λi H=>by simp_all) (PT rfl));refine⟨[],⟨ai, .inl ⟨di _ _ _,rfl⟩⟩,rfl,λg z=> ?_⟩;simp_all[di,mG,cu]
def KZ {t e ty:TypeId} {l:TypeInfo} {v:Value} (F:P.underlying t=some (.slice e)) (z:P.info? e=some l) (G:l.zero=some v) {q:Addr} {n c:Nat} (D:0<n) {w':World} (B:(storeCells q (Builtin.zeroCells v.cells n).toList).run P w= .ok () w'):
  (Builtin.clear_ #[t] ty #[.slice (some q) n c]).run P w= .ok (.tuple #[]) w':=by
 obtain⟨k,rfl⟩:∃k,n=k+1:=⟨n-1,af⟩
 simp_all[Builtin.clear_,bW,zeroValue,typeInfo]
def Zg {o:Oper} {c:Call} {t e e':TypeId} {s id sz V l q:Nat} {x:Operand} {xs:List (List AV)} {z:List AV} (hR:Rel N w0 μ0 L μ loc st a w) (H:o.dst=none) (ho:o.op= .call c) (hc:c.callee= .builtin .clear) (ha:c.args.toList=[x]) (ht:c.argTypes.toList=[t])
  (hs:isSlice P t=some (e,s)) (hx:bP P t st x=some (.sub id sz l q)) (R:st.ob id=some (.row e' V xs)) (hz:zeroCells P e=some z) (O:s=sz/\sz=V/\z.length=sz/\q<=xs.length/\e=e'/\0<sz)
  (hK:oS N w0 μ0 L { st with ob:=put st.ob id (some (.row e' V (xs.take l++replicate (q-l) z++xs.drop q))) } K):o.wJ P a w K Q:=by
 obtain⟨rfl,rfl,hzl,hhi,rfl,hpos⟩:=O;obtain⟨callee,⟨args⟩,⟨argTypes⟩⟩:=c;simp only at hc ha ht;subst hc;subst ha;subst ht;obtain⟨hu,inf,I,hsz⟩:=gb hs;obtain⟨A,n,cp,A',c',SJ,hlo,hhn,hcc,hxv,_,hg⟩:=bp hR hx;obtain⟨vs,hown,S,hm⟩:=hR.obs id _ R;by_cases hlt:l<q
 .obtain⟨g,rfl,rfl⟩:=hg hlt;obtain⟨D,B,hloc',F,hnc,hcm,hcs,M7⟩:∃D B,loc id= .slice (some ⟨g,0,none⟩) xs.length D/\w.heap[g]? =some (.cells B e (0,0))/\xs.length<=D/\D<=maxLen/\B.size=D *s/\B.toList.take (xs.length *s)=vs:=by
   rcases hown.2 with⟨_,e2⟩|⟨g',D,B,e1,_,h2,h3,h4,h5,h6⟩
   .omega
   simp_all
  obtain⟨i',v,G,hv,hcz⟩:=oG (μ:=μ) hz;rw[I] at G;injection G with G;subst G;have hzc:v.cells.size=s:=by have:=hcz.length;simpa[hzl] using this
  have hzs:(Builtin.zeroCells v.cells (q-l)).toList=(replicate (q-l) v.cells.toList).flatten:=by rw[<-vm v.cells s hzc hpos (q-l)];simp[Builtin.zeroCells,madeCells,hzc]
  have U:=qV (sz:=s) hcz af (q-l);have Ho:((replicate (q-l) v.cells.toList).flatten).length=(q-l) *s:=by have:=dg U;simpa using this
  have hvl:=dg S;have hcl:xs.length *s<=B.size:=by rw[hcs];exact jS _ hnc
  have hmul:l *s+(q-l) *s=q *s:=by rw[<-jR];congr 1;omega
  have hhis:q *s<=xs.length *s:=jS _ hhi;have hsc:=wO P g (l *s) e (replicate (q-l) v.cells.toList).flatten 0 B w F af (kL U);simp only[lY,Ho] at hsc;have abM:=oy (oy (kS S l) U) (Db S q);have hxl':(xs.take l++replicate (q-l) z++xs.drop q).length=xs.length:=by simp;omega
  have hrun:=KZ (P:=P) (ty:=o.type) (c:=c') (n:=q-l) hu I hv af (by rw[hzs];omega);refine jj (v:= .tuple #[]) (w':=w.setRow g (B.toList.take (l *s)++(replicate (q-l) v.cells.toList).flatten++B.toList.drop (l *s+(q-l) *s)).toArray) (by simp_all[execOp,resolve,invoke,builtin,jq,tO,kM,List.map_toArray,bS,fI]) ?_;rw[H];refine hK _ _ _ _ (hR.write R (g:=g) (by rw[SJ];exact iS.2 rfl) (λk hk=>wP w g k _ hk) rfl rfl rfl ai ?_);refine⟨_,⟨?_, .inr ⟨g,D,_,?_,cZ _,Be w g B _ e _ F,?_,hcm,?_,?_⟩⟩,abM,λg' hg'=>hm g' hg'⟩
  .grind
  .simp_all
  .omega
  .grind
  grind[Nat.mul_le_mul_right,Nat.min_eq_left,List.drop_take,replicate,List.length_append,List.length_take,List.take,List.drop,List.take_append,List.take_of_length_le]
 .have h0:q-l=0:=af;have e0:xs.take l++replicate (q-l) z++xs.drop q=xs:=by
   rw[show l=q from by omega];simp
  rw[e0] at hK
  refine jj (v:= .tuple #[]) (w':=w) (by
   unfold execOp;rw[ho];simp[resolve,invoke,builtin,hxv,h0,Builtin.clear_,bW hu]
   cases A'<;>simp) ?_
  rw[H];refine hK _ _ μ loc ?_
  have:put st.ob id (some (.row e s xs))=st.ob:=by
   funext i;by_cases e:id=i
   .subst e;rw[de,R]
   .rw[bZ _ _ e]
  rw[this];exact hR
def JK {o:Oper} {t:TypeId} {x y:Operand} {sa sv:SV} (hR:Rel N w0 μ0 L μ loc st a w) (F9:o.dst=none) (ho:o.op= .store t x y)
  (S:fW μ loc sa (a.eval x)) (Vx:fW μ loc sv (a.eval y)) (h:storeAt P t st sa sv=some st') (hK:oS N w0 μ0 L st' K):o.wJ P a w K Q:=by
 have fin:∀(ad:Addr) (w':World),a.eval x= .pointer (some ad)->(storeVar t ad (a.eval y)).run P w= .ok () w'->Rel N w0 μ0 L μ loc st' a w'->o.wJ P a w K Q:=λad w' e hr hR'=>by refine LV (w':=w') ?_ (by rw[F9];exact hK _ _ _ _ hR');simp_all[execOp,Instr.storeAt,Instr.sureAddr,jq,tO,kM]
 unfold storeAt at h;split at h
 .rename_i id l;obtain⟨b,hl,S⟩:=S;split at h
  .rename_i bt cells n R hsz;obtain⟨b',I,hl',hnF,B,IA,hss,h1⟩:=hR.obs id _ R;rw[hl] at hl';simp only[Value.pointer.injEq,bq,Addr.mk.injEq,eP] at hl';subst hl';have hlen:=qm hss;have U:∀(D:List Value) (sus:List SV),(a.eval y).cells.toList=D->D.length=n->l+n<=I.length->(∀u∈D,u.oneCell'=true)->gY μ loc sus D->
     st'={ st with ob:=put st.ob id (some (.box bt (cells.take l++sus++cells.drop (l+n)))) }->o.wJ P a w K Q:=by
    intro D sus BE Ho hle G hsus hst;have hsc:=wO P b l bt D 0 I.toArray w B aI G;simp only[lY] at hsc
    refine fin ⟨b,l,none⟩ _ S (by
     have:(a.eval y).cells.size=n:=by rw[<-Ho,<-BE];simp
     simp only[storeVar,jq,kU hsz,kM,this,ne_eq,Bf,gL,tO,BE]
     omega) ?_
    rw[hst];refine hR.write R (g:=b) (by rw[hl];exact EJ.2 rfl) (λk hk=>wP w b k _ hk) rfl rfl rfl ai ?_;refine⟨b,I.take l++D++I.drop (l+n),hl,hnF,?_,IA,?_,?_⟩
    .grind[setRow_heap]
    .grind[mu,DP,DO]
    .grind
   split at h
   .rename_i cs;split at h
    .rename_i q;injection h with h;obtain⟨D,e,V,G⟩:=Vx;have hs:=tj V;exact U D (cs.map JC) (by rw[e];rfl) (by grind[qm,List.length_map]) af G hs h.symm
    grind
   .rename_i cs;split at h
    .rename_i q;injection h with h;have SO:=Vx;simp only[fW,rep] at SO;obtain⟨D,e,V,G⟩:=SO;exact U D (cs.map .pv) (by rw[e];rfl) (by grind[tI]) af G (sG V) h.symm
    grind
   .split at h
    .rename_i q;injection h with h;obtain⟨ho1,hc1⟩:=Wp hR q.2.2 Vx;refine U [a.eval y] [sv] (by rw[hc1]) (by simp_all) af (by simp_all) ⟨_,[],rfl,Vx,rfl⟩ ?_;simp_all[GY,aB]
    grind
  grind
 .rename_i id H i l;obtain⟨g,n',cp,hl,S⟩:=S;split at h
  .rename_i e sz' xs n v R hsz;split at h
   .rename_i c hg;split at h
    .rename_i q;obtain⟨rfl,hvl,hle,hnt⟩:=q;injection h with h;rw[jF (hR.obs id _ R)] at hl;obtain⟨I,hown,hrc,hm⟩:=hR.obs id _ R;have hil:i<xs.length:=(bR.1 hg).1;obtain⟨O,F,SJ,B,hnc,hcm,hcs,M7⟩:∃O F,loc id= .slice (some ⟨g,0,none⟩) xs.length O/\w.heap[g]? =some (.cells F e (0,0))/\xs.length<=O/\O<=maxLen/\F.size=O *H/\F.toList.take (xs.length *H)=I:=by
      rcases hown.2 with⟨_,e2⟩|⟨g',O,F,e1,_,h2,h3,h4,h5,h6⟩
      .omega
      simp_all
     have hyc:lF μ v.cells (a.eval y).cells.toList:=Nw (show rep μ v (a.eval y) from Vx) (λz e=>by rw[e] at hnt;cases hnt);have Ho:(a.eval y).cells.toList.length=n:=by rw[hyc.length];exact hvl
     have key:∀(xs:List (List AV)) (I:List Value) (i:Nat) (c:List AV),dc μ H xs I->xs[i]? =some c->l+n<=c.length->
       dc μ H (xs.set i (c.take l++v.cells++c.drop (l+n))) (I.take (i *H+l)++(a.eval y).cells.toList++I.drop (i *H+l+n))/\i *H+l+n<=I.length:=by
      intro xs;induction xs with
      |nil=>simp
      |cons x xs ih=>intro I i c hrc hx hle;obtain⟨D,ws,rfl,k1,k2,k3⟩:=hrc;cases i with
       |zero=>
        simp at hx;subst hx;have hxl:=k1.length;refine⟨?_,aI⟩;refine⟨D.take l++(a.eval y).cells.toList++D.drop (l+n),ws,?_,((k1.take l).append hyc).append (k1.drop (l+n)),?_,k3⟩
        .grind
        grind
       |succ i=>
        simp at hx;obtain⟨r1,r2⟩:=ih ws i c k3 hx hle;refine⟨?_,by grind⟩;refine⟨D,ws.take (i *H+l)++(a.eval y).cells.toList++ws.drop (i *H+l+n),?_,k1,k2,r1⟩
        rw[show(i+1) *H+l=D.length+(i *H+l) from by grind,GZ,
         show D.length+(i *H+l)+n=D.length+(i *H+l+n) from by omega,A9]
        simp
     obtain⟨abM,hle'⟩:=key xs I i c hrc hg hle;have hvl':=dg hrc;have hcl:xs.length *H<=F.size:=by rw[hcs];exact jS _ hnc
     have hsc:=wO P g (i *H+l) e _ 0 _ w B af hyc.2;simp only[Ho] at hsc
     refine fin _ _ S (by
      have :=by simpa using Ho
      simp[storeVar,jq,kU hsz,kM,this,ne_eq,Bf,gL]
      omega) ?_
     rw[<-h];refine hR.write R (by rw[hl];exact iS.2 rfl) (λk hk=>wP w g k _ hk) rfl rfl rfl ai ?_;refine⟨_,⟨?_, .inr ⟨g,_,_,?_,cZ _,Be w g _ _ e _ B,?_,hcm,?_,?_⟩⟩,abM,λg' hg'=>hm _ hg'⟩
     .grind
     .simp_all
     .simp_all
     .grind
     .rw[show I.take _=F.toList.take (i *H+l) from by grind,
       show I.drop _=(F.toList.drop _).take _ from by rw[<-M7,GR]]
      rw[List.take_append,gK (by grind)];congr 2;grind
    grind
   grind
  grind
 grind
def Zj {o:Oper} {t:TypeId} {x y:Operand} {z B:SV} (q:Rel N w0 μ0 L μ loc st a w) (l:o.dst=none) (F:o.op= .store t x y)
  (G:bP P 0 st x=some z) (H:bP P t st y=some B) (h:storeAt P t st z B=some st') (D:oS N w0 μ0 L st' K):o.wJ P a w K Q:=
 JK q l F (bp q G) (bp q H) h D
def R8 {o:Oper} {t:TypeId} {x y:Operand} {id H j I n:Nat} (B:Rel N w0 μ0 L μ loc st a w) (F:o.dst=none) (ho:o.op= .store t x y) (hx:bP P 0 st x=some (.ptr id H)) (hy:bP P t st y=some (.sub j I 0 n))
  (h:Xi P st t id H j I n=some st') (hK:oS N w0 μ0 L st' K):o.wJ P a w K Q:=by
 unfold Xi at h;split at h
 .rename_i e sz' xs G;cases S:(Nat.beq I sz'&&gJ j&& !(Nat.beq id j)) with
  |false=>simp_all
  |true=>
  rw[S] at h;simp at h;simp only[aV] at S;obtain⟨⟨b1,b2⟩,b3⟩:=S;have c1:=beq_iff.1 b1;subst c1;have hne:id≠j:=λe=>by simp_all
  have hxa:=bp B hx;obtain⟨A,m,c,A',c',hl,_,hnm,_,hu,h0,_⟩:=bp B hy;obtain⟨rfl,rfl⟩:=h0 rfl;have U:j<10000\/20000<=j:=by simp[gJ,gE] at b2;rcases b2 with hm|hm<;>simp_all
  obtain⟨us,l,hrc,hm⟩:=B.obs j _ G;have hml:m=xs.length:=by rcases l.2 with⟨e1,e2⟩|⟨q,O,R,e1,_⟩<;>simp_all
  have D:∀q,mG (.slice A' n c') q↔mG (loc j) q:=λq=>by rw[hl,iS,iS];cases A'<;>rfl
  have h2:=B.new (o:= .row e I (xs.take n)) U ?_ (λk ok hk V q hq=>B.apart j k _ _ G hk (eL V) q ((D q).1 hq))
  .refine JK h2 F ho ?_ ?_ h hK
   .obtain⟨b,k1,k2⟩:=hxa;exact⟨b,by simp_all[dh],k2⟩
   .show a.eval y=gp _;rw[di,hu];rfl
  .have z:=kS hrc n;refine⟨_,⟨by rw[dg z],?_⟩,z,λq hq=> ?_⟩
   .rw[di];rcases l.2 with⟨e1,e2⟩|⟨q,O,R,e1,k1,k2,k3,k4,k5,k6⟩
    .simp_all
    grind[Nat.mul_le_mul_right]
   simp_all[di]
 grind
theorem AN (t ty e:TypeId) (i:TypeInfo) (B:P.underlying t=some (.slice e)) (z:P.info? e=some i) (v:Value) (n:Nat) (xs:List Value) (size:Nat) (l:w.ownsRow 0 e size v n xs) (c:Nat):
  (Builtin.append_ #[t,t] ty #[v, .slice none 0 c]).run P w= .ok v w:=by
 rcases l.2 with⟨rfl,rfl⟩|⟨g,D,F,rfl,_,_,q,_⟩
 .simp[Builtin.append_,bW B,sizeOf,typeInfo,z,Builtin.lenOf,Builtin.firstCells]
 .simp[Builtin.append_,bW B,sizeOf,typeInfo,z,Builtin.lenOf,Builtin.firstCells,q,storeCells]
def Vc {o:Oper} {x y:Operand} {t e:TypeId} {d F id:Nat} {sy:SV} {xs U:List (List AV)} {i:TypeInfo} (B:Rel N w0 μ0 L μ loc st a w) (hd:d<N) (F9:o.dst=some d)
  (ho:o.op= .call { callee:= .builtin .append,args:= #[x,y],argTypes:= #[t,t] }) (hs:isSlice P t=some (e,F)) (hx:bP P t st x=some (.row id)) (hy:bP P t st y=some sy)
  (I:st.ob id=some (.row e F xs)) (hel:elems st sy=some (F,U)) (hi:P.info? e=some i) (hpos:0<F) (hby:(xs.length+U.length) *i.bytes<=140737488355328) (hlen:xs.length+U.length<=4611686018427387904)
  (hz:i.zero.map (λz=>z.cells.size)=some F) (hid:id<10000\/20000<=id) (hK:oS N w0 μ0 L ((st.new id (.row e F (xs++U))).set (some d) (.row id)) K):o.wJ P a w K Q:=by
 obtain⟨hu,inf,G,hsz⟩:=gb hs;rw[G] at hi;injection hi with hi;subst hi;obtain⟨z,UA,hzs⟩:∃z,inf.zero=some z/\z.cells.size=F:=by simp_all
 have hxv:a.eval x=loc id:=(bp B hx:a.eval x=gp (loc id)).trans (jF (B.obs id _ I));have Vx:=bp B hy;obtain⟨vs,O,hrc,hm⟩:=B.obs id _ I;obtain⟨A,c,SO,us,BE,hsrc⟩:=tP B hel Vx;have Ho:=dg BE;obtain⟨R,w',hrun,EH,l,D⟩:∃R w',(Builtin.append_ #[t,t] o.type #[loc id, .slice A U.length c]).run P w= .ok R w'/\w'.ownsRow 0 e F R (xs.length+U.length) (vs++us)/\w.grownBy w' (loc id).ownBlock/\
   (R.ownBlock=(loc id).ownBlock\/R.ownBlock=some w.heap.size):=by
  cases A with
  |none=>
   have h0:U.length=0:=by
    rcases hsrc with h0|⟨ad,h,_⟩
    .exact h0
    .cases h
   have hu0:us=[]:=lV (by simp_all);subst hu0;rw[h0];exact⟨loc id,w,AN t o.type e inf hu G (loc id) _ vs F O c,by simp_all,⟨rfl,rfl,rfl,aZ _,λ_ _ _=>rfl⟩, .inl rfl⟩
  |some ad=>
   have V:∀j u,us[j]? =some u->w.cell? (ad.add j)=some u:=by rcases hsrc with h0|⟨ad',h,hc⟩<;>simp_all
   obtain⟨R,w',h1,h2,h3,_,h5⟩:=run_append_own_at (P:=P) w 0 t o.type e inf z F inf.bytes hu G UA hsz rfl hzs hpos (loc id) xs.length vs O ad U.length c us Ho V (kL BE) (by simp only[maxLen];omega) hby (cZ _);grind
 have hbo:∀v:Value,(∃A n c,v= .slice A n c)->v.ownBlock=cu v:=by rintro v ⟨A,n,c,rfl⟩;cases A<;>rfl
 have SJ:∃A n c,loc id= .slice A n c:=by rcases O.2 with⟨e1,_⟩|⟨g,cap,cur,e1,_⟩<;>simp_all
 have Vw:∃A n c,R= .slice A n c:=by rcases EH.2 with⟨e1,_⟩|⟨g,cap,cur,e1,_⟩<;>simp_all
 rw[hbo _ SJ] at l D;rw[hbo _ Vw] at D;have hok:=B.obs id _ I;refine jj (v:=R) (w':=w') (by simp_all[execOp,resolve,invoke,builtin]) ?_;rw[F9]
 have h1:=(B.drop id).world (w':=w') (Mu.le.refl _) (λ_ _ _ h=> .inl h) (λb j v h=>by
   have hc:=B.yc b j v h;have hlt:=sO hc;have H:some b≠cu (loc id):=λe=>by have:=(hok.block b (.inl e.symm)).2.2 j;simp_all
   rw[ji (l.block b hlt H)];omega) (λk ok hk b q=>by
   by_cases e':id=k
   .simp_all[de]
   .simp only[bZ _ _ e'] at hk;obtain⟨_,hlt,IA⟩:=(B.obs k ok hk).block b q;have H:some b≠cu (loc id):=λe=>B.apart id k _ ok I hk e' b (.inl e.symm) q
    exact⟨l.block b hlt H,IA⟩) (λb q hl=>by
   refine l.block b (fH q B.grown) (λe=> ?_);rcases(hok.block b (.inl e.symm)).1 with h|h|⟨v,hv,h⟩
   .omega
   .exact hl h.cG
   .exact hl ⟨id,v,hv,h⟩) l.os l.tape l.output l.size (λ_=>Gs hrun)
 have h2:=h1.new (val:=R) (o:= .row e _ _) hid (by
   refine⟨_,?_,oy hrc BE,λg S=> ?_⟩
   .simp_all[di]
   .rw[di] at S;replace S:cu R=some g:=by obtain⟨A',n',c',rfl⟩:=Vw;exact iS.1 S
    rcases D with q|q
    .rw[S] at q;have:=hok.block g (.inl q.symm);simp_all
    .rw[S] at q;injection q with q;subst q
     exact⟨.inl B.grown,xU B _ (aZ _)⟩) (λj oj hj H g S=>by
   have hj':st.ob j=some oj:=by
    by_cases e':id=j
    .omega
    .simp_all[bZ]
   replace S:cu R=some g:=by obtain⟨A',n',c',rfl⟩:=Vw;exact iS.1 S
   rcases D with q|q
   .rw[S] at q;exact B.apart _ j _ _ I hj' (λe=>H e.symm) g (.inl q.symm)
   .rw[S] at q;injection q with q;intro hbj;have:=((B.obs j _ hj').block _ hbj).2.1
    omega)
 have heq:St.new { st with ob:=put st.ob id none } id (.row e F (xs++U))=St.new st id (.row e F (xs++U)):=by
  simp[St.new,St.dH];congr 1;funext k;by_cases e':id=k
  .subst e';simp[de]
  .simp[bZ _ _ e']
 rw[heq] at h2;exact hK _ _ _ _ (h2.set (λi hi=>by simp_all) (PT (by obtain⟨A',n',c',rfl⟩:=Vw;rfl)))
def Ie (w:World) (t ty e:TypeId) (i:TypeInfo) (z:Value) (size bytes:Nat) (ht:P.underlying t=some (.slice e)) (hi:P.info? e=some i) (hz:i.zero=some z)
  (G:i.size=size) (U:i.bytes=bytes) (hzs:z.cells.size=size) (A:Option Addr) (n I:Nat) (xs:List Value) (q:w.ownsRow 0 e size (.slice A n I) n xs)
  (a:Addr) (m c:Nat) (l:List Value) (O:l.length=m *size) (B:∀j u,l[j]? =some u->w.cell? (a.add j)=some u) (h63:n+m<=maxLen) (D:(n+m) *bytes<=140737488355328) (hm:0<m):
  ∃S w',(Builtin.append_ #[t,t] ty #[.slice A n n, .slice (some a) m c]).run P w= .ok S w'/\w'.ownsRow 0 e size S (n+m) (xs++l)/\w.grownBy w' (Value.ownBlock (.slice A n I))/\
   (S.ownBlock=Value.ownBlock (.slice A n I)\/S.ownBlock=some w.heap.size):=by
 subst G U;have H:(xs++l).length=(n+m) *i.size:=by rw[cE,q.1,O,jR]
 have hge:=grownCap_ge w (n+m) n e;have V :=grownCap_le_maxLen w _ n e h63;have R:n+m<=9223372036854775807:=by simp[maxLen] at h63;omega
 have key:∀row,(w.drew.alloc (.cells (xs.toArray++l.toArray++Builtin.zeroCells z.cells (grownCap w (n+m) n e-(n+m))) e)).ownsRow 0 e _ _ _ _/\
   w.grownBy (w.drew.alloc (.cells (xs.toArray++l.toArray++Builtin.zeroCells z.cells (grownCap w (n+m) n e-(n+m))) e)) row:=λrow=>by
  refine⟨⟨H, .inr ⟨_,_,_,rfl,cZ _,rf _ _,hge,V,?_,?_⟩⟩,⟨rfl,rfl,rfl,by simp,λk hk _=>heap_alloc_old _ _ k hk⟩⟩
  .simp[Array.size_append,rj,size_zeroCells,hzs,q.1,O,<-jR];simp_all
  grind
 rcases q.2 with⟨e1,e2⟩|⟨g,cap,cur,e1,_⟩
 .have hx:xs=[]:=lV (by simp_all);injection e1 with e1 _ _;subst hx e2 e1;have hr:=run_append_nil w t ty e i z ht hi hz a m c _ O B af af (by grind);have F:=key (Value.ownBlock (.slice none 0 I));simp at F⊢;exact⟨_,_,hr,F.1,F.2, .inr rfl⟩
 .injection e1 with e1 _ _;subst e1;have hr:=run_append_grow w t ty e i z ht hi hz _ n n _ q.1 (q.cells rfl) a m c _ O B af af (growslice_fits af D);exact⟨_,_,hr,(key none).1,(key _).2, .inr rfl⟩
def Sb {o:Oper} {x y:Operand} {t e:TypeId} {d I id:Nat} {sy:SV} {xs H:List (List AV)} {i:TypeInfo} (D:Rel N w0 μ0 L μ loc st a w) (hd:d<N) (F9:o.dst=some d)
  (ho:o.op= .call { callee:= .builtin .append,args:= #[x,y],argTypes:= #[t,t] }) (hs:isSlice P t=some (e,I)) (hx:bP P t st x=some (.aq id .full)) (hy:bP P t st y=some sy)
  (U:st.ob id=some (.row e I xs)) (hel:elems st sy=some (I,H)) (hi:P.info? e=some i) (hpos:0<I) (hby:(xs.length+H.length) *i.bytes<=140737488355328) (hlen:xs.length+H.length<=4611686018427387904)
  (hz:i.zero.map (λz=>z.cells.size)=some I) (hid:id<10000\/20000<=id) (B:H.isEmpty=false) (hK:oS N w0 μ0 L ((st.new id (.row e I (xs++H))).set (some d) (.row id)) K):o.wJ P a w K Q:=by
 obtain⟨hu,inf,hinf,hsz⟩:=gb hs;rw[hinf] at hi;injection hi with hi;subst hi;obtain⟨z,UA,hzs⟩:∃z,inf.zero=some z/\z.cells.size=I:=by simp_all
 have Vx:=bp D hy;obtain⟨vs,G,hrc,hm⟩:=D.obs id _ U;have hpos2:0<H.length:=by cases H with
  |nil=>simp at B
  |cons y H=>simp
 obtain⟨A0,hxv⟩:∃A0,a.eval x= .slice A0 xs.length xs.length/\∃c,loc id= .slice A0 xs.length c:=by
  obtain⟨A0,n,c,e1,e2⟩:=bp D hx;have hn:n=xs.length:=by rcases G.2 with⟨e3,e4⟩|⟨g,cap,cur,e3,_⟩<;>simp_all
  simp_all
 obtain⟨hxv,c0,hl0⟩:=hxv;obtain⟨A,c,SO,us,BE,hsrc⟩:=tP D hel Vx;have Ho:=dg BE;obtain⟨O,w',hrun,EH,l,F⟩:∃O w',(Builtin.append_ #[t,t] o.type #[.slice A0 xs.length xs.length, .slice A H.length c]).run P w= .ok O w'/\w'.ownsRow 0 e I O (xs.length+H.length) (vs++us)/\w.grownBy w' (loc id).ownBlock/\
   (O.ownBlock=(loc id).ownBlock\/O.ownBlock=some w.heap.size):=by
  cases A with
  |none=>simp_all
  |some ad=>
   have S:∀j u,us[j]? =some u->w.cell? (ad.add j)=some u:=by
    rcases hsrc with h0|⟨ad',h,hc⟩
    .omega
    .simp_all
   rw[hl0] at G⊢;obtain⟨O,w',h1,h2,h3,h5⟩:=Ie (P:=P) w t o.type e inf z I inf.bytes hu hinf UA hsz rfl hzs A0 xs.length c0 vs G ad H.length c us Ho S (by simp only[maxLen];omega) hby hpos2;grind
 have hbo:∀v:Value,(∃A n c,v= .slice A n c)->v.ownBlock=cu v:=by rintro v ⟨A,n,c,rfl⟩;cases A<;>rfl
 have SJ:∃A n c,loc id= .slice A n c:=by rcases G.2 with⟨e1,_⟩|⟨g,cap,cur,e1,_⟩<;>simp_all
 have V:∃A n c,O= .slice A n c:=by
  rcases EH.2 with⟨e1,_⟩|⟨g,cap,cur,e1,_⟩
  .omega
  .simp_all
 rw[hbo _ SJ] at l F;rw[hbo _ V] at F;have hok:=D.obs id _ U;refine jj (v:=O) (w':=w') (by simp_all[execOp,resolve,invoke,builtin]) ?_;rw[F9]
 have h1:=(D.drop id).world (w':=w') (Mu.le.refl _) (λ_ _ _ h=> .inl h) (λb j v h=>by
   have hc:=D.yc b j v h;have hlt:=sO hc;have B:some b≠cu (loc id):=λe=>by have:=(hok.block b (.inl e.symm)).2.2 j;simp_all
   rw[ji (l.block b hlt B)];omega) (λk ok hk b q=>by
   by_cases e':id=k
   .simp_all[de]
   .simp only[bZ _ _ e'] at hk;obtain⟨_,hlt,IA⟩:=(D.obs k ok hk).block b q;have B:some b≠cu (loc id):=λe=>D.apart id k _ ok U hk e' b (.inl e.symm) q
    exact⟨l.block b hlt B,IA⟩) (λb q hl=>by
   refine l.block b (fH q D.grown) (λe=> ?_);rcases(hok.block b (.inl e.symm)).1 with h|h|⟨v,hv,h⟩
   .omega
   .exact hl h.cG
   .exact hl ⟨id,v,hv,h⟩) l.os l.tape l.output l.size (λ_=>Gs hrun)
 have h2:=h1.new (val:=O) (o:= .row e _ _) hid (by
   refine⟨_,?_,oy hrc BE,λg R=> ?_⟩
   .simp_all[di]
   .rw[di] at R;replace R:cu O=some g:=by obtain⟨A',n',c',rfl⟩:=V;exact iS.1 R
    rcases F with q|q
    .rw[R] at q;have:=hok.block g (.inl q.symm);simp_all
    .rw[R] at q;injection q with q;subst q
     exact⟨.inl D.grown,xU D _ (aZ _)⟩) (λj oj hj B g R=>by
   have hj':st.ob j=some oj:=by
    by_cases e':id=j
    .omega
    .simp_all[bZ]
   replace R:cu O=some g:=by obtain⟨A',n',c',rfl⟩:=V;exact iS.1 R
   rcases F with q|q
   .rw[R] at q;exact D.apart _ j _ _ U hj' (λe=>B e.symm) g (.inl q.symm)
   .rw[R] at q;injection q with q;intro hbj;have:=((D.obs j _ hj').block _ hbj).2.1
    omega)
 have heq:St.new { st with ob:=put st.ob id none } id (.row e I (xs++H))=St.new st id (.row e I (xs++H)):=by
  simp[St.new,St.dH];congr 1;funext k;by_cases e':id=k
  .subst e';simp[de]
  .simp[bZ _ _ e']
 rw[heq] at h2;exact hK _ _ _ _ (h2.set (λi hi=>by simp_all) (PT (by obtain⟨A',n',c',rfl⟩:=V;rfl)))
def Sc {o:Oper} {x y:Operand} {t e e2:TypeId} {d F id k s2:Nat} {sy:SV} {xs H:List (List AV)} {zs:List (Option (List (List AV)))} {i:TypeInfo} (G:Rel N w0 μ0 L μ loc st a w) (hd:d<N) (F9:o.dst=some d)
  (ho:o.op= .call { callee:= .builtin .append,args:= #[x,y],argTypes:= #[t,t] }) (hs:isSlice P t=some (e,F)) (hx:bP P t st x=some (.row id)) (hy:bP P t st y=some sy)
  (V:st.ob id=some (.rn e F k e2 s2 xs zs)) (hel:elems st sy=some (F,H)) (S:P.info? e=some i) (hpos:0<F) (hby:(xs.length+H.length) *i.bytes<=140737488355328) (hlen:xs.length+H.length<=4611686018427387904)
  (hz:i.zero.map (λz=>z.cells.size)=some F) (hid:id<10000\/20000<=id) (hall:H.all (qJ k)=true) (hK:oS N w0 μ0 L ((st.new id (.rn e F k e2 s2 (xs++H.map λc=>c.set k .hole) (zs++H.map λ_=>some []))).set (some d) (.row id)) K):o.wJ P a w K Q:=by
 obtain⟨D,inf,U,hsz⟩:=gb hs;rw[U] at S;injection S with S;subst S;obtain⟨z,UA,hzs⟩:∃z,inf.zero=some z/\z.cells.size=F:=by cases hzz:inf.zero with
  |none=>simp[hzz] at hz
  |some z=>simp[hzz] at hz;exact⟨z,rfl,hz⟩
 obtain⟨m,vu,vs,hl,hm,I,hrc,hk,h2,h3,h4,h5,h6,h7⟩:=G.obs id _ V;have hxv:a.eval x=m:=(bp G hx:a.eval x=gp (loc id)).trans (by rw[hl];rfl);have Vx:=bp G hy;obtain⟨A,c,SO,us,BE,hsrc⟩:=tP G hel Vx;have Ho:=dg BE;obtain⟨hus',JY⟩:=wB BE hall hk.1;obtain⟨v',w',hrun,EH,l,hblk⟩:∃v' w',(Builtin.append_ #[t,t] o.type #[m, .slice A H.length c]).run P w= .ok v' w'/\w'.ownsRow 0 e F v' (xs.length+H.length) (vs++us)/\w.grownBy w' m.ownBlock/\
   (v'.ownBlock=m.ownBlock\/v'.ownBlock=some w.heap.size):=by
  cases A with
  |none=>
   have h0:H.length=0:=by
    rcases hsrc with h0|⟨ad,h,_⟩
    .exact h0
    .cases h
   have hu0:us=[]:=lV (by rw[Ho,h0];simp);subst hu0;rw[h0];exact⟨m,w,AN t o.type e inf D U m _ vs F I c,by simpa using I,⟨rfl,rfl,rfl,aZ _,λ_ _ _=>rfl⟩, .inl rfl⟩
  |some ad=>
   have hcells:∀j u,us[j]? =some u->w.cell? (ad.add j)=some u:=by
    rcases hsrc with h0|⟨ad',h,R⟩
    .have hu0:us=[]:=lV (by rw[Ho,h0];simp);subst hu0;intro j u D;simp at D
    .injection h with h;subst h;exact R
   obtain⟨v',w',h1,h2,h3,_,h5⟩:=run_append_own_at (P:=P) w 0 t o.type e inf z F inf.bytes D U UA hsz rfl hzs hpos m xs.length vs I ad H.length c us Ho hcells (kL BE) (by simp only[maxLen];omega) hby (cZ _);exact⟨v',w',h1,h2,h3,h5⟩
 have hbo:∀v:Value,(∃A n c,v= .slice A n c)->v.ownBlock=cu v:=by rintro v ⟨A,n,c,rfl⟩;cases A<;>rfl
 have hsl:∀{w:World} {v:Value} {n:Nat} {cs:List Value} {e s:Nat},w.ownsRow 0 e s v n cs->∃A n c,v= .slice A n c:=λho=>by rcases ho.2 with⟨e1,_⟩|⟨g,cap,cur,e1,_⟩<;>exact⟨_,_,_,e1⟩
 have Vu:=hsl I;have Vw:=hsl EH;rw[hbo _ Vu] at l hblk;rw[hbo _ Vw] at hblk;have hok:=G.obs id _ V;have hinm:∀g,cu m=some g->mG (loc id) g:=λg B=>by rw[hl];exact kg.2 (.inl B)
 have hinu:∀u∈vu,∀g,cu u=some g->mG (loc id) g:=λu D g B=>by rw[hl];exact kg.2 (.inr ⟨u,D,B⟩)
 refine jj (v:=v') (w':=w') (by unfold execOp;rw[ho];simp[resolve,invoke,builtin,hxv,SO,hrun]) ?_;rw[F9]
 have h1:=(G.drop id).world (w':=w') (Mu.le.refl _) (λ_ _ _ h=> .inl h) (λb j v h=>by
   have R:=G.yc b j v h;have hlt:=sO R;have O:some b≠cu m:=λe=>by have:=(hm b e.symm).2 j;rw[this] at h;cases h
   rw[ji (l.block b hlt O)];omega) (λk ok hk b hb=>by
   by_cases e':id=k
   .subst e';simp[de] at hk
   .simp only[bZ _ _ e'] at hk;obtain⟨_,hlt,IA⟩:=(G.obs k ok hk).block b hb;have O:some b≠cu m:=λe=>G.apart id k _ ok V hk e' b (hinm b e.symm) hb
    exact⟨l.block b hlt O,IA⟩) (λb hb hl'=>by
   refine l.block b (fH hb G.grown) (λe=> ?_);rcases(hm b e.symm).1 with h|h|⟨v,hv,h⟩
   .omega
   .exact hl' h.cG
   .exact hl' ⟨id,v,hv,h⟩) l.os l.tape l.output l.size (λ_=>Gs hrun)
 have hvl:=dg hrc;have mem:∀u∈vu++H.map (λ_=>(.slice none 0 0:Value)),u∈vu\/u= .slice none 0 0:=λu D=>by
  rcases bu.1 D with D|D
  .exact .inl D
  .obtain⟨c,_,rfl⟩:=aG.1 D;exact .inr rfl
 have hvg:∀g,cu v'=some g->(cu m=some g)\/g=w.heap.size:=λg B=>by grind
 have h2':=h1.new (id:=id) (val:= .tuple (v'::(vu++H.map λ_=>(.slice none 0 0:Value))).toArray) (o:= .rn e F k e2 s2 (xs++H.map λc=>c.set k .hole) (zs++H.map λ_=>some [])) hid (by
   refine⟨v',_,vs++us,di _ _ _,λg B=> ?_,by rw[cE,bz];exact EH,oy hrc hus',⟨hk.1,λc R=> ?_⟩,by simp[h2],by simp[h3],λi zs' S=> ?_,λi S=> ?_,λu D g B hgv=> ?_,λi j u v D hv hij g B hg'=> ?_⟩
   .rcases hvg g B with hb|rfl
    .exact⟨(hm g hb).1,(hm g hb).2⟩
    .exact⟨.inl G.grown,xU G _ (aZ _)⟩
   .rcases bu.1 R with R|R
    .exact hk.2 c R
    .obtain⟨c',hc',rfl⟩:=aG.1 R;have:=zU (cI.1 hall c' hc');rw[nv (bR.1 this).1]
   .by_cases hil:i<zs.length
    .rw[fV hil] at S;obtain⟨u,cells,k1,k2,k3,k4,k5⟩:=h4 i zs' S;refine⟨u,cells,by rw[fV af];exact k1,by rw[fV (bR.1 k2).1];exact k2,qk k3 (λg B=> ?_),k4,k5⟩;exact l.block g (xZ k3 B) (λe=>h6 u (aR k1) g B e.symm)
    .rw[gD af] at S;simp only[dK,cH] at S;obtain⟨c,R,e1⟩:=S;simp only[bq] at e1;subst e1;have hcl:=(bR.1 R).1;refine⟨.slice none 0 0,[],by rw[gD af];simp[h2,R],?_,⟨ai, .inl ⟨rfl,rfl⟩⟩,rfl,λg B=>by simp[cu] at B⟩;have e3:i *F+k-vs.length=(i-zs.length) *F+k:=by
      rw[hvl,h3,Nat.sub_mul]
      have:zs.length *F<=i *F:=jS _ af
      omega
     rw[gD (by rw[hvl,h3];have:zs.length *F<=i *F:=jS _ (by omega);omega),e3];exact JY _ hcl
   .grind
   .rcases mem u D with D|rfl
    .rcases hvg g hgv with hb|rfl
     .grind
     .have:=(hok.block _ (hinu u D _ B)).2.1;omega
    .simp[cu] at B
   .have split:∀q z,(vu++H.map λ_=>(.slice none 0 0))[q]? =some z->∀g,cu z=some g->vu[q]? =some z:=λq z hz g B=>by
     by_cases hq:q<vu.length
     .rwa[fV hq] at hz
     .rw[gD af] at hz;simp only[dK,cH] at hz;obtain⟨c,_,e1⟩:=hz;subst e1;simp[cu] at B
    exact h7 i j u v (split i u D g B) (split j v hv g hg') hij g B hg') (λj oj hj O g B=>by
   have hj':st.ob j=some oj:=by
    by_cases e':id=j
    .omega
    .simpa only[bZ _ _ e'] using hj
   rcases kg.1 B with B|⟨u,D,B⟩
   .rcases hvg g B with hb|rfl
    .exact G.apart _ j _ _ V hj' (λe=>O e.symm) g (hinm g hb)
    .intro hbj;have:=((G.obs j _ hj').block _ hbj).2.1;omega
   .rcases mem u D with D|rfl
    .exact G.apart _ j _ _ V hj' (λe=>O e.symm) g (hinu u D g B)
    .simp[cu] at B)
 have heq:∀o',St.new { st with ob:=put st.ob id none } id o'=St.new st id _:=λo'=>by
  simp[St.new,St.dH];congr 1;funext k;by_cases e':id=k
  .subst e';simp[de]
  simp_all[bZ]
 rw[heq] at h2';exact hK _ _ _ _ (h2'.set (λi S=>by simp_all) (rowS' (by rfl)))
def Te {t k e:TypeId} {r:Option Operand} (z:Rel N w0 μ0 L μ loc st a w) (F:P.underlying t=some (.map k e)) (B:yH P st r=true):(Instr.makeMap t (r.map a.eval)).run P w= .ok (.map (some w.heap.size)) (w.alloc (.map #[] 0)):=by
 have l:(Instr.makeMap t (r.map a.eval)).run P w= .ok (.map (some w.heap.size)) (w.alloc (.map #[] 0)):=by cases r with
  |none=>rfl
  |some x=>simp[yH] at B;cases D:(bP P 0 st x).bind kR with
   |none=>simp_all
   |some y=>cases y with
    |int q n=>have:=gO z D;simp_all[rep,Instr.makeMap,bW,asInt,asIntOf]
    |_=>simp_all
 omega
def Se {o:Oper} {t k e:TypeId} {r:Option Operand} {d:Nat} (q:Rel N w0 μ0 L μ loc st a w) (D:d<N) (l:o.dst=some d) (I:o.op= .makeMap t r) (H:P.underlying t=some (.map k e))
  (G:yH P st r=true) (B:oS N w0 μ0 L ((st.new d (.mp k e [] [])).set (some d) (.row d)) K):o.wJ P a w K Q:=by
 have z:=Te q H G;refine jj (v:= .map (some w.heap.size)) (w':=w.alloc (.map #[] 0)) (by simp_all[execOp]) ?_;rw[l];refine B _ _ _ _ (q.made D (λg F=>zN.1 F) ?_ ?_)
 .refine⟨_, #[],0,di _ _ _, .inl q.grown,(by show(w.heap.push _)[w.heap.size]? =_;simp),xU q _ (aZ _),by rfl,by rfl,⟨ai,ai⟩⟩
 .exact PT rfl
def VX {key x:AV} {z B:Value} (h:xb key x=some true) (l:rep μ key z) (q:rep μ x B):z=B/\key=x:=by
 unfold xb at h;split at h
 .rw[rep] at l q;simp_all
 .split at h
  .rw[rep] at l q;simp_all
  grind
 .rw[rep] at l q;simp_all
 grind
def EO {q:Value} {key:AV} (B:rep μ key q) {z:TypeId} (l:oq P z key=true) (w:World):(Instr.keyThatStays q q).run P w= .ok q w:=by
 have D:∀n,Instr.sameBits n q q=true:=by
  unfold oq at l;split at l
  .simp_all[rep,Instr.sameBits,ad6]
  .simp_all[rep,Instr.sameBits]
  .simp_all[rep,Instr.sameBits]
  .cases l
 simp_all[Instr.keyThatStays]
theorem KQ {xs:List AV} {l:List Value} (h:cS μ xs l) {i:Nat} {x:AV} {v:Value} (z:rep μ x v):cS μ (xs.set i x) (l.set i v):=by induction xs generalizing l i with
 |nil=>simp_all[cS]
 |cons y xs D=>obtain⟨u,F,rfl,B,q⟩:=h;cases i with
  |zero=>simpa using cT z q
  |succ i=>simp_all[cT]
def Ml {t kt et:TypeId} {b:Nat} {eS:Array MapEntry} {q:Nat} {key:AV} {kv x:Value} {ks:List AV} {r:Option Nat} (hu:P.underlying t=some (.map kt et)) (hh:w.heap[b]? =some (.map eS q)) (F:rep μ key kv) (H:oq P kt key=true)
  (h1:cS μ ks (eS.toList.map (·.key))) (hf:xe key ks=some r):
  ∃l B,(Instr.mapUpdate t (.map (some b)) kv x).run P w= .ok () { w with heap:=w.heap.setIfInBounds b (.map l B) }/\
   (r=none->cS μ (ks++[key]) (l.toList.map (·.key))/\l.toList.map (·.val)=eS.toList.map (·.val)++[x])/\
   (∀j,r=some j->cS μ ks (l.toList.map (·.key))/\l.toList.map (·.val)=(eS.toList.map (·.val)).set j x/\j<eS.size)/\(Born eS q->Born l B):=by
 have S:=BA F H h1 hf w;cases r with
 |none=>
  refine⟨eS.push { key:=kv,val:=x,born:=q },q+1,?_,λ_=>⟨?_,ai⟩,(λj e=>by cases e),λR=>⟨λy G=> ?_,?_⟩⟩
  .simp[Instr.mapUpdate,bW hu,oD hh,sd F H,S,setObj,Sem.run,hh]
  .simp_all[oC,cT,dY]
  .rw[Array.toList_push,bu] at G;rcases G with G|G
   .have:=R.1 y G;omega
   simp_all
  .rw[Array.toList_push,cL,ig];refine⟨R.2,by simp,λa ha b hb=> ?_⟩;obtain⟨y,G,rfl⟩:=aG.1 ha;simp at hb;have:=R.1 y G;omega
 |some j=>
  obtain⟨e,he,U,y,G,hyk⟩:=S;obtain⟨yv,V,hyr⟩:=tB h1 G;have I :=by simpa using he
  have SO :=by simp[I] at V;exact V.symm
  subst SO;obtain⟨O,_⟩:=VX hyk F hyr;have D:(eS.modify j λe=>{ e with key:=kv,val:=x }).toList.map (·.born)=eS.toList.map (·.born):=by
   apply kO;intro i;by_cases e1:j=i
   .simp_all
   .simp[e1]
  refine⟨_,q,?_,(λe=>by cases e),(λj' ej=> ?_),λR=>⟨λy G=> ?_,by rw[D];exact R.2⟩⟩
  rotate_right
  .have hm:y.born∈eS.toList.map (·.born):=by rw[<-D];exact aG.2 ⟨y,G,rfl⟩
   obtain⟨z,hz,e⟩:=aG.1 hm;rw[<-e];exact R.1 z hz
  .simp[Instr.mapUpdate,bW hu,oD hh,sd F H,U,I,<-O,EO F H,setObj,Sem.run,hh]
  .injection ej with ej;subst ej;refine⟨?_,?_,(mE.1 I).1⟩
   .have:(eS.modify j λe=>{ e with key:=kv,val:=x }).toList.map (·.key)=eS.toList.map (·.key):=by
     apply kO;intro i;by_cases e1:j=i
     .simp_all
     .simp[e1]
    simp_all
   .apply kO;grind
def Eu {o:Oper} {t:TypeId} {m k x:Operand} (hR:Rel N w0 μ0 L μ loc st a w) (H:o.dst=none) (U:o.op= .mapUpdate t m k x\/o.op= .insert t m k x) (h:yy P st t m k x=some st')
  (hK:oS N w0 μ0 L st' K):o.wJ P a w K Q:=by
 unfold yy at h;split at h
 .rename_i kt et hu;split at h
  .rename_i st1 B;obtain⟨F,z⟩:∃F,Rel N w0 μ0 L F loc st1 a w:=by
    unfold VZ at B;split at B
    .grind
    .obtain⟨μ',_,h'⟩:=hR.dy B;grind
    simp_all
   split at h
   .rename_i id key v hm hk hx;split at h
    .rename_i k' e' ks vs I;cases hc:(oq P kt key&&v.Hv) with
     |false=>simp_all
     |true=>
      simp[hc] at h;simp at hc;split at h
      .rename_i ks' vs' R;injection h with h;subst h;obtain⟨b,eS,V,hl,O,hh,IA,h1,h2,hB⟩:=z.obs _ _ I;have Vu:a.eval m= .map (some b):=by
        have:=bp z hm;rw[this,hl];rfl
       have hkr:=gO z hk;have hxr:=gO z hx;have S:∃l q,(Instr.mapUpdate t (a.eval m) (a.eval k) (a.eval x)).run P w= .ok () { w with heap:=w.heap.setIfInBounds b (.map l q) }/\cS F ks' (l.toList.map (·.key))/\cS F vs' (l.toList.map (·.val))/\Born l q:=by unfold Wf at R;cases hf:xe key ks with
        |none=>simp_all
        |some r=>obtain⟨l,q,G,q1,q2,q3⟩:=Ml (x:=a.eval x) hu hh hkr hc.1 h1 hf;grind[oC,cT,dY,KQ]
       obtain⟨l,q,G,r1,r2,r3⟩:=S;have hlt:=(mE.1 hh).1;have D:=z.write I (by rw[hl];exact zN.2 rfl) (w':={ w with heap:=w.heap.setIfInBounds b (.map l q) }) (o':= .mp k' e' _ _) (λb' hb'=>by grind) rfl rfl rfl ai ⟨b,_,_,hl,O,by simp[hlt],IA,r1,r2,r3⟩
       have:((execOp a.eval o).run P w)= .ok .skip { w with heap:=w.heap.setIfInBounds b (.map l q) }:=by unfold execOp;rcases U with U|U<;>rw[U]<;>simp[G]
       exact LV this (by rw[H];exact hK _ _ _ _ D)
      grind
    grind
   grind
  grind
 grind
def Oq {o:Oper} {c:Call} {t:TypeId} {m:Operand} (H:Rel N w0 μ0 L μ loc st a w) (B:o.dst=none) (ho:o.op= .call c) (hc:c.callee= .builtin .clear) (V:c.args.toList=[m]) (ht:c.argTypes.toList=[t]) (h:EU P st t m=some st')
  (hK:oS N w0 μ0 L st' K):o.wJ P a w K Q:=by
 obtain⟨G,⟨args⟩,⟨z⟩⟩:=c;simp only at hc V ht;subst hc;subst V;subst ht;unfold EU at h;split at h
 .rename_i kt et hu;split at h
  .rename_i id hm;split at h
   .rename_i k' e' ks vs D;injection h with h;subst h;obtain⟨b,eS,l,O,F,I,S,h1,h2,hB⟩:=H.obs id _ D;have U:a.eval m= .map (some b):=by
     have:=bp H hm;simp only[fW] at this;rw[this,O];rfl
    have R:=(mE.1 I).1;have hrun:(Builtin.clear_ #[t] o.type #[a.eval m]).run P w= .ok (.tuple #[]) { w with heap:=w.heap.setIfInBounds b (.map #[] l) }:=by simp[Builtin.clear_,U,bW hu,oD I,setObj,Sem.run,I]
    have q:=H.write D (by rw[O];exact zN.2 rfl) (w':={ w with heap:=w.heap.setIfInBounds b (.map #[] l) }) (o':= .mp k' e' [] []) (λb' hb'=>by grind) rfl rfl rfl ai ⟨b, #[],l,O,F,by simp[R],S,dY,dY,⟨λx hx=>by simp at hx,ai⟩⟩
    refine jj (v:= .tuple #[]) (w':={ w with heap:=w.heap.setIfInBounds b (.map #[] l) }) (by
     unfold execOp;simp[resolve,invoke,builtin]
     simp_all) ?_
    rw[B];exact hK _ _ _ _ q
   .cases h
  .cases h
 .cases h
def zX {id:Nat} {val:Value} {I:Array Value} (q:loc id= .tuple I) (l:gp val=gp (loc id)):∀{D:List oJ} {B:List Value},kK μ loc D B->kK μ (qN loc id val) D B
 |[],B,h=>h
 |c::D,B,⟨u,_,e,z,F⟩=>by refine⟨u,_,e,?_,zX q l F⟩;cases c with
  |v a=>exact z
  |p j=>
   obtain⟨b,O,H⟩:=z;have G:j≠id:=λe=>by simp_all
   exact⟨b,by simp_all[dh],H⟩
  |r j=>
   show u=gp _;by_cases e:j=id
   .subst e;rw[di,l];exact z
   .rw[dh _ _ e];exact z
theorem Nu {id:Nat} {val:Value} {us:Array Value} (D:loc id= .tuple us) (B:gp val=gp (loc id)) {s:SV} {v:Value} (l:(∀q u,BV q (loc id) u->BV q val u)\/s.mentions (id+40000)=false) (k:fW μ loc s v):fW μ (qN loc id val) s v:=by induction s generalizing v with
 |undef=>exact k
 |any=>exact k
 |pv y=>exact k
 |cp cs=>exact k
 |ptr j off=>
  obtain⟨b,I,H⟩:=k;have R:j≠id:=λe=>by simp_all
  exact⟨b,by simp_all[dh],H⟩
 |row j=>
  show v=gp _;by_cases e:j=id
  .subst e;rw[di,B];exact k
  .rw[dh _ _ e];exact k
 |rp j sz i off=>obtain⟨g,n,c,I,H⟩:=k;refine⟨g,n,c,?_,H⟩;grind[di,dh]
 |sub j sz lo hi=>
  obtain⟨A,n,c,A',c',I,H⟩:=k;have R:j≠id:=λe=>by simp_all
  exact⟨A,n,c,A',c',by simp_all[dh],H⟩
 |cl f G=>obtain⟨vs,e,O⟩:=k;exact⟨vs,e,zX D B O⟩
 |ag G=>obtain⟨vs,e,O,I⟩:=k;exact⟨vs,e,zX D B O,I⟩
 |aq j q=>
  show BV q _ v;by_cases e:j=id
  .subst e;rw[di];rcases l with l|l
   .exact l q v k
   simp_all[SV.mentions]
  .rw[dh _ _ e];exact k
 |two s t S F=>obtain⟨x,y,e,k,V⟩:=k;exact⟨x,y,e,S (l.imp (λh=>h) λh=>(gi.1 h).1) k,F (l.imp (λh=>h) λh=>(gi.1 h).2) V⟩
 |three s t r S F U=>obtain⟨x,y,z,e,k,V,k3⟩:=k;exact⟨x,y,z,e,S (l.imp (λh=>h) λh=>(gi.1 (gi.1 h).1).1) k,F (l.imp (λh=>h) λh=>(gi.1 (gi.1 h).1).2) V,U (l.imp (λh=>h) λh=>(gi.1 h).2) k3⟩
def KS {id:Nat} {val:Value} {O:Array Value} (z:loc id= .tuple O) (l:gp val=gp (loc id)):∀{D:List SV} {F:List Value},((∀q u,BV q (loc id) u->BV q val u)\/∀c∈D,c.mentions (id+40000)=false)->gY μ loc D F->gY μ (qN loc id val) D F
 |[],F,_,h=>h
 |c::D,F,B,⟨u,_,e,G,H⟩=>⟨u,_,e,Nu z l (B.imp (λh=>h) λh=>h c ai) G,KS z l (B.imp (λh=>h) λh c I=>h c (by simp[I])) H⟩
def noAt (id:Nat):Ob->Prop
 | .box _ cells=>∀c∈cells,c.mentions (id+40000)=false
 |_=>True
def ZS {V:Nat} {i id:Nat} {val:Value} {D:Array Value} (B:loc id= .tuple D) (z:gp val=gp (loc id)) {o:Ob} (I:(∀q u,BV q (loc id) u->BV q val u)\/noAt id o) (h:nY V L μ loc w i o) (hne:i≠id):nY V L μ (qN loc id val) w i o:=by cases o with
 |box t cells=>obtain⟨b,F,O,ho,hh,R,hs,H⟩:=h;exact⟨b,F,by simp_all[dh],ho,hh,R,KS B z I hs,H⟩
 |row e sz xs=>obtain⟨F,U,S,R⟩:=h;refine⟨F,by simp_all[dh],S,λg hg=>R g (by simp_all[dh])⟩
 |mp k e ks es=>obtain⟨b,eS,G,O,l⟩:=h;exact⟨b,_,_,by simp_all[dh],l⟩
 |lp xs=>obtain⟨D,O,H,h2⟩:=h;exact⟨D,by simp_all[dh],λg hg=>H g (by simp_all[dh]),h2⟩
 |rn e sz k e' sz' xs ys=>obtain⟨m,D,F,O,l⟩:=h;exact⟨m,D,F,by simp_all[dh],l⟩
def Rel.relay (B:Rel N w0 μ0 L μ loc st a w) {id:Nat} {o o':Ob} {val:Value} {us:Array Value} (ho:st.ob id=some o) (R:loc id= .tuple us) (D:gp val=gp (loc id)) (U:id<10000) {g:Nat} (hg:mG (loc id) g) {w':World}
  (H:∀b,b≠g->w'.heap[b]? =w.heap[b]?) (hos:w'.os=w.os) (G:w'.tape=w.tape) (I:w'.output=w.output) (hsz:w'.heap.size=w.heap.size)
  (sY:nY w0.heap.size L μ (qN loc id val) w' id o') (hap:∀j oj,st.ob j=some oj->j≠id->∀q,mG val q->¬mG (loc j) q) (Xw:(∀q u,BV q (loc id) u->BV q val u)\/((∀i s,st.env i=some s->s.mentions (id+40000)=false)/\∀i S,st.ob i=some S->noAt id S)) (hdr:L.q->w.drawn<=w'.drawn:=by exact λ_=>aZ _):Rel N w0 μ0 L μ (qN loc id val) { st with ob:=put st.ob id (some o') } a w':=by
 obtain⟨O,hlt,IA⟩:=(B.obs _ o ho).block g hg
 have l:=(B.drop id).world (Mu.le.refl _) (λ_ _ _ h=> .inl h) (λb j v h=>by
   have:=B.yc b j v h
   grind[ji]) (λi S z b hb=>by
   by_cases e:id=i
   .subst e;simp[de] at z
   .simp[bZ _ _ e] at z;have F:b≠g:=λe'=>by subst e';exact B.apart _ i o _ ho z e b hg hb
    exact⟨H b F,((B.obs i _ z).block b hb).2.2⟩) (λb hb hl=>by
   refine H b (λe=> ?_);subst e;rcases O with h|h|⟨v,V,h⟩
   .omega
   .exact hl h.cG
   .exact hl ⟨id,v,V,h⟩) hos G I af hdr
 refine⟨l.small,l.names,?_,l.size,l.defers,?_,l.yc,l.base,?_,?_,l.keep,l.os,l.tape,l.output,l.grown,l.drawn⟩
 .intro i v V h9 z;have F:i≠id:=λe=>by omega
  rw[dh _ _ F];exact B.fix i v V h9 z
 .intro i s z;obtain⟨v,V,hr⟩:=l.env i s z;grind[Nu]
 .intro i S z;by_cases e:id=i
  .simp_all[de]
  .simp[bZ _ _ e] at z;exact ZS R D (Xw.imp (λh=>h) λh=>h.2 i _ z) (l.obs i _ (by simp_all[bZ])) (eL e)
 .intro i j S oj z hj hij q hq;by_cases ei:id=i
  .simp_all[bZ,di,dh,eL]
  .simp[bZ _ _ ei] at z;rw[dh _ _ (eL ei)] at hq;by_cases ej:id=j
   .grind[di]
   .simp[bZ _ _ ej] at hj;rw[dh _ _ (eL ej)];exact B.apart i j _ _ z hj hij q hq
def Rel.PF (l:Rel N w0 μ0 L μ loc st a w) (id:Nat):Rel N w0 μ0 L μ loc (st.dH id) a w:=by
 have V:qN loc id (loc id)=loc:=funext λi=>by grind[di,dh]
 have q:∀i D,(st.dH id).ob i=some D->i≠id/\∃F,st.ob i=some F/\D=F.dH id:=λi D h=>by
  by_cases e:id=i
  .simp_all[St.dH,de]
  .simp[St.dH,bZ _ _ e,cH] at h;grind
 refine⟨l.small,l.names,l.fix,l.size,l.defers,?_,l.yc,l.base,?_,?_,l.keep,l.os,l.tape,l.output,l.grown,l.drawn⟩
 .intro i s z;simp[St.dH,cH] at z;obtain⟨s',B,rfl⟩:=z;obtain⟨v,hv,U⟩:=l.env i _ B;simp_all[iT]
 .intro i D z;obtain⟨H,F,B,rfl⟩:=q i _ z;have:=DJ (x:=loc id) (l.obs i _ B) H;simp_all
 .intro i j D F z O G;obtain⟨_,R,B,_⟩:=q i _ z;obtain⟨_,S,I,_⟩:=q j _ O;exact l.apart i j _ _ B I G
theorem MA {o:Oper} {t:TypeId} {x:Operand} {d:Nat} (V:Rel N w0 μ0 L μ loc st a w) (hd:d<N) (F9:o.dst=some d) (ho:o.op= .load t x) (h:xD P st t x d=some st') (hK:oS N w0 μ0 L st' K):o.wJ P a w K Q:=by
 unfold xD at h;split at h
 .rename_i id sz i off O hagg;split at h
  .rename_i e sz' k e' s' xs ys S;split at h
   .rename_i zs hvi;cases hb:(Nat.beq sz sz'&&Nat.beq off k&& !(Nat.beq id d)&&Nat.blt id 10000) with
    |false=>simp_all
    |true=>
    rw[hb] at h;simp only[ak,bq] at h;subst h;simp only[aV,jx] at hb;obtain⟨⟨⟨b1,b2⟩,b3⟩,b4⟩:=hb;have e1:=beq_iff.1 b1;have e2:=beq_iff.1 b2;subst e1 e2;have hne:id≠d:=λe=>by simp_all
    have hid:id<10000:=cK.mp b4;have hd':d<10000:=fH hd V.small;obtain⟨g,n,c,H,hxa⟩:=bp V O;obtain⟨m,us,vs,hl,hm,U,hrc,hk,h2,h3,h4,h5,h6,h7⟩:=V.obs id _ S;obtain⟨u,cells,k1,k2,k3,k4,k5⟩:=h4 i zs hvi;have Vu:m= .slice (some ⟨g,0,none⟩) n c:=by rw[hl] at H;exact H
    have I:=U.cells (g:=g) (by rw[Vu];rfl) _ _ k2;rw[add_lit,eO] at I
    refine jj (v:=u) (w':=w) (by
     unfold execOp;rw[ho]
     simp[hxa,Instr.loadAt,Instr.sureAddr,loadVar,rK hagg,I]) ?_
    rw[F9];have hil:i<us.length:=(bR.1 k1).1;have hLid:∀{q},Ib w0.heap.size L id q->w0.heap.size<=q\/Zt L q:=λ{q} B=>V.DH hid B
    have r1:=V.relay (id:=id) (o':= .rn e sz off e' s' xs (ys.set i none)) (val:= .tuple (m::us.set i undef).toArray) (g:=g) (w':=w) S hl (by rw[hl];rfl) hid (by rw[hl];exact kg.2 (.inl (by rw[Vu];rfl))) (λ_ _=>rfl) rfl rfl rfl rfl (by
      have vz:∀(q:Nat) (z:Value),(us.set i undef)[q]? =some z->∀g,cu z=some g->us[q]? =some z:=λq z F g D=>by
       by_cases l:q=i
       .rw[l,nv hil] at F;injection F with F;subst F;simp[undef,cu] at D
       grind
      refine⟨m,us.set i undef,vs,di _ _ _,hm,U,hrc,hk,by simp[h2],by simp[h3],λq zs' B=> ?_,λq B=> ?_,λz F g D=> ?_,λq q' x y O hy hqq g D hg'=>h7 q q' x y (vz q x O g D) (vz q' y hy g hg') hqq g D hg'⟩
      .have l:q≠i:=λe=>by subst e;simp[wR] at B
       rw[nx (eL l)] at B;obtain⟨u',R,m1,m2⟩:=h4 q zs' B;exact⟨u',R,by rw[nx (eL l)];exact m1,m2⟩
      .by_cases l:q=i
       .subst l;simp[wR,hil]
       .rw[nx (eL l)] at B;rw[nx (eL l)];exact h5 q B
      .rcases wS F with F|rfl
       .exact h6 z F g D
       .simp[undef,cu] at D) (λj oj hj G q B=>by
      refine λhqj=>V.apart _ j _ _ S hj (eL G) q ?_ hqj
      rw[hl];rcases kg.1 B with B|⟨z,F,hzq⟩
      .exact kg.2 (.inl B)
      .rcases wS F with F|rfl
       .exact kg.2 (.inr ⟨z,F,hzq⟩)
       .simp[undef,cu] at hzq) (.inl λq u B=>by
      rw[hl] at B;cases q with
      |full=>obtain⟨A,n,c,e,_⟩:=B;cases e
      |bs q=>obtain⟨b,e,_⟩:=B;cases e
      |nr q=>
       obtain⟨m',us',e,h1,h2⟩:=B;have e':=aU Array.toList (Value.tuple.inj e);obtain⟨rfl,rfl⟩:=e';refine⟨m,_,rfl,h1,λx O=> ?_⟩;by_cases l:q=i
       .subst l;rw[nv hil] at O;injection O with O;exact .inl O.symm
       .rw[nx (eL l)] at O;exact h2 x O)
    have hsl:gp u=u:=by rcases k3.2 with⟨e1,_⟩|⟨g,cap,cur,e1,_⟩<;>rw[e1]<;>rfl
    have hin:∀g,mG u g->cu u=some g:=λg D=>by rcases k3.2 with⟨e1,_⟩|⟨g',cap,cur,e1,_⟩<;>rw[e1] at D⊢<;>exact iS.1 D
    have r2:=r1.new (o:= .row _ _ _) (.inl hd') (by
      refine⟨_,by rw[di];omega,k4,λg D=> ?_⟩;rw[di] at D;obtain⟨m1,m2⟩:=k5 g (hin g D)
      exact⟨(hLid m1).imp (λh=>h) .inl,m2⟩) (λj oj hj hjd g D=>by
      by_cases G:id=j
      .subst G;rw[di];intro hb;rcases kg.1 hb with B|⟨z,F,hzq⟩
       .grind
       .obtain⟨q,B,eq⟩:=jw.1 F;have hq':(us.set i undef)[q]? =some z:=by grind
        by_cases l:q=i
        .grind[undef,cu]
        grind
      .simp[bZ _ _ G] at hj;rw[dh _ _ (eL G)]
       exact V.apart _ j _ _ S hj G g (by grind[kg]))
    exact hK _ _ _ _ (r2.set (λi hi=>by simp_all) (PT hsl))
   grind
  grind
 grind
theorem T6 {q:Type}:∀{l:List q} {k:Nat} {a:q},l[k]? =some a->l.set k a=l
 |[],_,_,h=>by simp at h
 |x::l,0,a,h=>by simp_all
 |x::l,k+1,a,h=>by simp at h;simp[T6 h]
def Dc {q k:Nat} {u:Value} (U:k<q) (F:rep μ .hole u):∀{xs:List (List AV)} {B:List Value} {i:Nat},dc μ q xs B->i<xs.length->(∀c∈xs,c[k]? =some AV.hole)->
  dc μ q xs (B.set (i *q+k) u)/\i *q+k<B.length
 |[],_,_,_,h,_=>by simp at h
 |x::xs,B,i,⟨O,ws,e,D,H,I⟩,hi,l=>by subst e;have V:=l x ai;have S:=F;rw[rep] at S;cases i with
  |zero=>
   rw[Bb,eO,yY _ _ af];refine⟨⟨_,ws,rfl,⟨?_,λz G=> ?_⟩,by simp[H],I⟩,aI⟩
   .have:=KQ D.1 (i:=k) F;rwa[T6 V] at this
   .rcases wS G with G|rfl
    .exact D.2 z G
    simp_all
  |succ i=>
   obtain⟨r1,r2⟩:=Dc U F I (i:=i) (by simp_all) λc R=>l c (by simp[R])
   have e1:(i+1) *q+k-O.length=i *q+k:=by rw[nt];omega
   rw[lJ _ _ (by grind),e1];exact⟨⟨O,_,rfl,D,H,r1⟩,by grind⟩
def TA {e:TypeId} {H:Nat} {m u:Value} {n p:Nat} {B:List Value} (h:w.ownsRow 0 e H m n B) (hp:p<B.length) (hu:u.oneCell'=true):
  ∃g z q,m= .slice (some ⟨g,0,none⟩) n z/\(storeCells ⟨g,p,none⟩ [u] 0).run P w= .ok () q/\q.ownsRow 0 e H m n (B.set p u)/\(∀b,b≠g->q.heap[b]? =w.heap[b]?)/\q.os=w.os/\q.tape=w.tape/\q.output=w.output/\q.heap.size=w.heap.size/\q.drawn=w.drawn:=by
 rcases h.2 with⟨_,D⟩|⟨g,z,l,e1,_,F,O,R,V,G⟩
 .have:=h.1;simp_all
 .have U:p<l.size:=by
   have D:=aU List.length G;simp at D;omega
  refine⟨g,_,_,e1,wO P g p e _ 0 _ w F aI (by simp_all),⟨by simp[h.1], .inr ⟨g,_,_,e1,cZ _,Be w g _ _ e _ F,O,R,?_,?_⟩⟩,λb S=>wP w g b _ S,rfl,rfl,rfl,by simp,rfl⟩
  .simp;omega
  .have I:l.toList.take (p+0)++[u]++l.toList.drop (p+0+[u].length)=l.toList.set p u:=by
    rw[GY,aB af];simp
   rw[I,List.take_set,G]
def TN {o:Oper} {t:TypeId} {x y:Operand} {id sz i B j:Nat} (I:Rel N w0 μ0 L μ loc st a w) (F9:o.dst=none) (ho:o.op= .store t x y) (hx:bP P 0 st x=some (.rp id sz i B)) (hy:bP P t st y=some (.row j))
  (h:HA P st t id sz i B j=some st') (hK:oS N w0 μ0 L st' K):o.wJ P a w K Q:=by
 unfold HA at h;split at h
 .rename_i e sz' k e' s' xs ys e2 s2 zs hagg hsz U D;cases G:(Nat.beq sz sz'&&Nat.beq B k&&Nat.blt id 10000&&Nat.blt j 10000&&Nat.beq e' e2&&Nat.beq s' s2&&Nat.blt i ys.length&& !(Nat.beq id j)) with
  |false=>simp_all
  |true=>
  rw[G] at h;simp only[ak,bq] at h;subst h;simp only[aV,jx] at G;obtain⟨⟨⟨⟨⟨⟨⟨b1,b2⟩,b3⟩,b4⟩,b5⟩,b6⟩,b7⟩,b8⟩:=G;have c1:=beq_iff.1 b1;have c2:=beq_iff.1 b2;have c5:=beq_iff.1 b5;have c6:=beq_iff.1 b6;subst c1 c2 c5 c6;have hne:id≠j:=λe=>by simp_all
  have hid:id<10000:=cK.mp b3;have hj:j<10000:=cK.mp b4;have hil:i<ys.length:=cK.mp b7;obtain⟨g,n,c,O,hxa⟩:=bp I hx;have Vx:a.eval y=loc j:=(bp I hy:a.eval y=gp (loc j)).trans (jF (I.obs j _ D));obtain⟨cells,hrow,Zz,hgj⟩:=I.obs j _ D;obtain⟨m,us,vs,hl,hm,hown,hrc,hk,h2,h3,h4,h5,h6,h7⟩:=I.obs id _ U;have Vu:m= .slice (some ⟨g,0,none⟩) n c:=by rw[hl] at O;exact O
  have S:rep μ .hole (loc j):=by rcases hrow.2 with⟨e1,_⟩|⟨g',cap,cur,e1,_⟩<;>rw[e1]<;>simp[rep,Value.oneCell',Value.cells]
  have V:(loc j).oneCell'=true/\(loc j).cells= #[loc j]:=by simpa[rep] using S
  obtain⟨abM,hp⟩:=Dc hk.1 S hrc (i:=i) af hk.2;obtain⟨g',cap,w',e1,hrun,hown',hch,hos,htape,hout,hsize,hdr⟩:=TA (P:=P) hown hp V.1;have eg:g=g':=by rw[Vu] at e1;simp at e1;exact e1.1
  subst eg;have hin:∀q,mG (loc j) q->cu (loc j)=some q:=λq l=>by rcases hrow.2 with⟨e1,_⟩|⟨g',cap,cur,e1,_⟩<;>rw[e1] at l⊢<;>exact iS.1 l
  have R:∀q,cu (loc j)=some q->¬mG (loc id) q:=λq l=>I.apart j id _ _ D U (eL hne) q (.inl l)
  have hbm:∀q,cu (loc j)=some q->cu m≠some q:=λq l e=>R q l (by rw[hl];exact kg.2 (.inl e))
  have hbu:∀u∈us,∀q,cu u=some q->cu (loc j)≠some q:=λu hu q l e=>R q e (by rw[hl];exact kg.2 (.inr ⟨u,hu,l⟩))
  have hmg:cu m=some g:=by rw[Vu];rfl
  refine LV (w':=w') (by
   unfold execOp;rw[ho];have h1:(a.eval y).cells.size=1:=by rw[Vx,V.2];rfl
   have h2:(a.eval y).cells.toList=[loc j]:=by rw[Vx,V.2]
   simp only[Instr.storeAt,hxa,Instr.sureAddr,jq,tO,kM,storeVar,kU hsz,h1,h2,ne_eq,Bf,gL,hrun]) ?_
  rw[F9];have hob1:((st.dH j).dH (id+40000)).ob id=some (.rn e sz B e' s' xs ys):=by have hne2:id+40000≠id:=af;simp[St.dH,bZ _ _ (eL hne),bZ _ _ hne2,U,Ob.dH]
  have hnm:∀(s:SV) (q:Nat),(s.dH q).mentions q=false:=λs q=>by unfold SV.dH;cases h:s.mentions q with
   |true=>rfl
   |false=>exact h
  have iu:i<us.length:=af
  refine hK _ _ _ _ (((I.PF j).PF (id+40000)).relay (id:=id) (o':= .rn e sz B e' s' xs (ys.set i (some zs))) (val:= .tuple (m::us.set i (loc j)).toArray) (g:=g) (w':=w') hob1 hl (by rw[hl];rfl) hid (by rw[hl];exact kg.2 (.inl hmg)) hch hos htape hout hsize ?_ (λq oj l H z F hzq=> ?_) (.inr ⟨λt s hs=>by
   simp only[St.dH,cH] at hs;obtain⟨s',_,rfl⟩:=hs;exact hnm _ _,λt o ho'=>by
   by_cases e:id+40000=t
   .subst e;simp[St.dH,de] at ho'
   .simp only[St.dH,bZ _ _ e,cH] at ho';obtain⟨o1,_,rfl⟩:=ho';cases o1<;>simp only[Ob.dH,noAt];intro c hc;obtain⟨c',_,rfl⟩:=aG.1 hc
    exact hnm _ _⟩) (λ_=>by omega))
  .have split:∀q z,(us.set i (loc j))[q]? =some z->us[q]? =some z/\q≠i\/q=i/\z=loc j:=λq z F=>by
    by_cases l:q=i
    .subst l;rw[nv iu] at F;injection F with F;exact .inr ⟨rfl,F.symm⟩
    .rw[nx (eL l)] at F;exact .inl ⟨F,l⟩
   refine⟨m,us.set i (loc j),vs.set (i *sz+B) (loc j),di _ _ _,hm,hown',abM,hk,by simp[h2],by simp[h3],λq zs' l=> ?_,λq l=> ?_,λz F q l=> ?_,λq q' z z' F hz' hqq b G hb'=> ?_⟩
   .by_cases H:q=i
    .subst H;rw[nv hil] at l;simp only[bq] at l;subst l;refine⟨loc j,cells,by rw[nv iu],by rw[nv hp],qk hrow (λb G=>hch b λe=>by subst e;exact hbm b G hmg),Zz,λb G=> ?_⟩;obtain⟨m1,m2⟩:=hgj b (.inl G);exact⟨(I.DH hj m1).imp (λh=>h) .inl,m2⟩
    .rw[nx (eL H)] at l;obtain⟨u',cells',m1,m2,m3,m4,m5⟩:=h4 q zs' l;have hpq:i *sz+B≠q *sz+B:=λe=>H (Nat.eq_of_mul_eq_mul_right (nE (cZ _) hk.1) af)
     exact⟨u',_,by grind,by rw[nx hpq];exact m2,qk m3 (λb G=>hch b λe=>by grind),m4,m5⟩
   .grind
   .grind
   .rcases split q z F with⟨hu2,_⟩|⟨e1,e2⟩<;>rcases split _ _ hz' with⟨hv2,_⟩|⟨e3,e4⟩
    .exact h7 q _ z _ hu2 hv2 hqq b G hb'
    .rw[e4] at hb';exact hbu z (aR hu2) b G hb'
    .rw[e2] at G;exact hbu _ (aR hv2) b hb' G
    .exact hqq (e1.trans e3.symm)
  .have hq4:id+40000≠q:=λe=>by subst e;simp[St.dH,de] at l
   rw[St.dH] at l;simp[bZ _ _ hq4,cH] at l;obtain⟨oj0,l,_⟩:=l;have hqj:q≠j:=λe=>by simp_all[St.dH,de]
   simp[St.dH,bZ _ _ (eL hqj),cH] at l;obtain⟨oj',hq',_⟩:=l;rcases kg.1 F with F|⟨u,hu,F⟩
   .exact I.apart _ q _ _ U hq' (eL H) z (by grind[kg]) hzq
   .rcases wS hu with hu|rfl
    .exact I.apart _ q _ _ U hq' (eL H) z (by grind[kg]) hzq
    .exact I.apart j q _ _ D hq' (eL hqj) z (.inl F) hzq
 grind
def Ph {o:Oper} {x:Operand} {id d:Nat} (q:Rel N w0 μ0 L μ loc st a w) (hd:d<N) (z:o.dst=some d) (ho:o.op= .assign x) (hx:bP P o.type st x=some (.row id)) (h:Wc st id d=some st') (U:oS N w0 μ0 L st' K):o.wJ P a w K Q:=by
 unfold Wc at h;split at h
 .rename_i e sz xs l;cases B:Nat.beq _ d with
  |true=>rw[B] at h;simp at h;subst h;have:=beq_iff.1 B;subst this;have S :=(bp q hx).trans (jF (q.obs _ _ l));refine jj (v:=loc id) (w':=w) (by simp_all[execOp]) ?_;rw[z];exact U _ _ _ _ (q.set (λi hi=>by simp_all) ((jF (q.obs _ _ l)).symm))
  |false=>
  rw[B] at h;cases V:Nat.blt id 10000 with
  |false=>simp_all
  |true=>
   rw[V] at h;simp at h;subst h;have I :=cK.mp V;have H :=fH hd q.small;have S :=(bp q hx).trans (jF (q.obs _ _ l));obtain⟨vs,hown,R,hm⟩:=q.obs _ _ l;have D:=jF (q.obs _ _ l);refine jj (v:=loc id) (w':=w) (by simp_all[execOp]) ?_;rw[z]
   have r1:=(q.PF id).new (o:= .row e _ _) (.inl H) (by
     refine⟨vs,by rw[di];omega,R,λg G=> ?_⟩;rw[di] at G;obtain⟨m1,m2⟩:=hm g G
     exact⟨(q.DH I m1).imp (λh=>h) .inl,m2⟩) (λj oj hj hjd g G=>by
     by_cases F:id=j
     .simp_all[St.dH,de]
     .simp[St.dH,bZ _ _ F,cH] at hj;obtain⟨oj',O,_⟩:=hj
      exact q.apart _ j _ _ l O F g G)
   exact U _ _ _ _ (r1.set (λi hi=>by simp_all) (PT D))
 grind
end
