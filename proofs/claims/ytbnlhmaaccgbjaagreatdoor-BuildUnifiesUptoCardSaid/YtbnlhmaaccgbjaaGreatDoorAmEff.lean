/- THE ABSTRACT MACHINE. -/
import Derived.Test.YtbnlhmaaccgbjaaGreatDoorAmStep
set_option linter.all false
open List (replicate)
namespace Go.AM
open Go.RowKit
section
variable {μ μ':Mu} {loc:Nat->Value}
theorem AG {D b:Nat} {xs:List (List AV)} {z:List Value} {l:Nat} (h:cT μ D xs z) (q:μ.le μ') (H:∀j u,z[j]? =some u->μ' b (l+j)=some u):lE μ' D b xs l:=by induction xs generalizing z l with
 |nil=>simp[lE]
 |cons x xs O=>
  obtain⟨R,ws,rfl,B,F,G⟩:=h;refine⟨⟨R,(B.mono q).1,B.2,F,λj u I=>H j u ?_⟩,O G λj u I=> ?_⟩
  .grind
  simp_all[fK,kX]
def oq {q:Nat} {xs B:List (List AV)} {l z:List Value} (h:cT μ q xs l) (k:cT μ q B z):cT μ q (xs++B) (l++z):=by induction xs generalizing l with
 |nil=>have:l=[]:=h;simp_all
 |cons x xs H=>obtain⟨a,b,rfl,D,F,G⟩:=h;exact⟨a,_,by simp,D,F,H G⟩
def qT {sz:Nat} {z:List AV} {l:List Value} (h:lR μ z l) (q:l.length=sz):∀n,cT μ sz (replicate n z) (replicate n l).flatten
 |0=>rfl
 |n+1=>⟨l,_,by rfl,h,q,qT h q n⟩
def AH {z:Nat}:∀(n:Nat) {l:List AV} {q:List Value},lR μ l q->l.length=n *z->cT μ z (chunks z n l) q
 |0,l,q,h,B=>by have :=kW (by rw[h.length];omega);assumption
 |n+1,l,q,h,B=>by rw[jA] at B;have D:=h.length;exact⟨_,_,by simp,h.take _,by simp;omega,AH n (h.drop _) aH⟩
def Fv {z:List AV} {l:List Value} (h:lR μ z l):∀n,lR μ (tU z n) (replicate n l).flatten
 |0=>⟨dA,ai⟩
 |n+1=>by simpa[tU,q7] using h.append (Fv h n)
theorem AF (z:List AV):∀n,(tU z n).length=n *z.length
 |0=>by simp[tU]
 |n+1=>by simp[tU,AF z n,jA];omega
def C1 (q:Nat):∀(n:Nat) (l:List AV),(chunks q n l).length=n
 |0,_=>rfl
 |n+1,l=>by simp[chunks,C1 _ n]
def jF {id:Nat} {s:SV} {v:Value} (k:fU μ loc s v):fU μ loc (s.dw id) v:=by unfold SV.dw;cases s.mentions _ with
 |true=>trivial
 |false=>exact k
def PO {id:Nat} {s:SV} {v:Value} {x:AV} (k:fU μ loc s v) (D:rep μ x (fS (loc id))):fU μ loc (s.cV id x) v:=by cases s with
 |row j=>cases h:Nat.beq j id with
  |true=>simp[SV.cV,h];have:=beq_iff.1 h;subst this;have e :=k;rw[e];exact D
  |false=>simp_all[SV.cV]
 |ag q=>
  by_cases l:∃j,q=[.r j]
  .obtain⟨j,rfl⟩:=l;cases h:Nat.beq j id with
   |true=>simp only[SV.cV,h,ak];have:=beq_iff.1 h;subst this;obtain⟨H,e,⟨u,G,F,B,z⟩,l⟩:=k;have z:G=[]:=z;subst z F;have B:u=fS (loc j):=B;exact⟨[u],e,cE (B▸D) dA,l⟩
   |false=>simpa only[SV.cV,h,az] using k
  .have:(SV.ag q).cV id x=(SV.ag q).dw id:=by
    unfold SV.cV;split
    .rename_i e;cases e
    .rename_i j e;cases e;exact absurd ⟨j,rfl⟩ l
    .rfl
   rw[this];exact jF k
 |_=>exact jF k
def rowS' {id:Nat} {v u:Value} (h:fS v=u):fU μ (qG loc id v) (.row id) u:=by show u=fS _;rw[cI,h]
def Lh {id:Nat} {v:Value} (h:fS v=v):fU μ (qG loc id v) (.row id) v:=by show v=fS _;rw[cI,h]
theorem vm (l:Array Value) (s:Nat) (F:l.size=s) (D:0<s) (n:Nat):(madeCells l (n *s)).toList=(replicate n l.toList).flatten:=by
 have key:∀n,(List.range (n *s)).map (λi=>l[i % s]!)=(replicate n l.toList).flatten:=by intro n;induction n with
  |zero=>simp
  |succ n G=>
   rw[ny,kY,wL];have q:(List.range s).map (λi=>l[i % s]!)=l.toList:=by
    apply kZ;intro i;by_cases B:i<s
    .simp_all[Nat.mod_eq_of_lt]
    .simp_all
   have z:((λi=>l[i % s]!)∘λx=>s+x)=λi=>l[i % s]! :=by funext i;simp
   grind
 simp_all[madeCells]
theorem QS (q:List Value) {l c:Nat} (h:l<=c):(replicate c q).flatten.take (l *q.length)=(replicate l q).flatten:=by obtain⟨d,rfl⟩:=Nat.exists_eq_add_of_le h;rw[<-List.replicate_append_replicate,List.flatten_append];simp_all[jY]
end
section
variable {P:Program} {N:Nat} {w0:World} {μ0:Mu} {L:sQ} {μ:Mu} {loc:Nat->Value} {st st':St} {a:Act} {w:World} {Q:Exit->Act->World->Prop} {K:Act->World->Prop}
theorem BX {e G:Nat} {xs:List (List AV)} {u:Value} {cells:List Value} (l:w.ownsRow 0 e G u xs.length cells) (z:cT μ G xs cells) {μ':Mu} (D:μ.le μ')
  (R:∀b j v,bH u=some b->H7 w b j=some v->μ' b j=some v):rep μ' (.dD G xs) u:=by
 have q:=kU z;rw[rep];rcases l.2 with⟨e1,S⟩|⟨g,I,O,e1,_,U,F,B,_⟩
 .grind
 .refine⟨_,_,e1,F,B, .inr ⟨g,0,rfl,AG z D λj u H=> ?_⟩⟩;have:=l.cells (by rw[e1];rfl) j u H;rw[add_lit] at this;exact R g _ u (by rw[e1];rfl) (xw this (q u (aZ H)))
def Be {z:Type}:∀{q:List (Option z)} {l:List z},oG q=some l->q=l.map some
 |[],l,h=>by simp_all[oG]
 |none::q,l,h=>by simp[oG] at h
 |some x::q,l,h=>by simp[oG,cB] at h;obtain⟨D,B,rfl⟩:=h;simp[Be B]
def K7 {l:List AV}:∀{k:Nat} {q:List Value} {u:Value} {a:AV},cM μ l q->q[k]? =some u->rep μ a u->cM μ (l.set k a) q:=by induction l with
 |nil=>simp_all
 |cons c l H=>intro k q u a h D B;obtain⟨v,F,rfl,G,z⟩:=h;cases k with
  |zero=>simp at D;subst D;exact⟨v,F,rfl,B,z⟩
  |succ k=>exact⟨v,F,rfl,G,H z (by assumption) B⟩
def AI {k F D:Nat} {μ':Mu} (B:μ.le μ') (S:k<F):∀{xs:List (List AV)} {l:List (List (List AV))} {z:List Value},cT μ F xs z->xs.length=l.length->
  (∀(i:Nat) G,l[i]? =some G->∃u,z[i *F+k]? =some u/\rep μ' (.dD D G) u)->cT μ' F (wG k D xs l) z
 |[],[],z,h,_,_=>h
 |[],_::_,z,_,h,_=>by simp at h
 |_::_,[],z,_,h,_=>by simp at h
 |x::xs,y::l,z,⟨us,ws,e,H,O,R⟩,hl,q=>by subst e;obtain⟨u,I,U⟩:=q 0 y ai;rw[wM,eO,fL af] at I;refine⟨us,ws,rfl,⟨K7 (gj B _ _ H.1) I U,H.2⟩,O,AI B S R (by simp_all) λi G hi=> ?_⟩;obtain⟨u2,hu2,V⟩:=q (i+1) _ (by assumption);grind
def Dt {k q:Nat}:∀{xs:List (List AV)} {l:List (List (List AV))},xs.length=l.length->(wG k q xs l).length=xs.length
 |[],[],_=>rfl
 |[],_::_,h=>by simp at h
 |_::_,[],h=>by simp at h
 |x::xs,y::l,h=>by simp[wG,Dt (xs:=xs) (l:=l) (by simp_all)]
def QX {n0:Nat} {id:Nat} {o:Ob} {v:AV} (h:nv n0 L μ loc w id o) (z:o.val=some v) {μ':Mu} (q:μ.le μ')
  (U:∀b j v,lI (loc id) b->H7 w b j=some v->μ' b j=some v):rep μ' v (fS (loc id)):=by
 cases o with
 |box t cells=>simp[Ob.val] at z
 |it s n=>simp[Ob.val] at z
 |lp s=>simp[Ob.val] at z
 |row e sz xs=>simp only[Ob.val,aW] at z;subst z;rw[jj h];obtain⟨vs,G,O,_⟩:=h;exact BX G O q (λb j v hb=>U b j v (.inl hb))
 |mp k e ks B=>simp only[Ob.val,aW] at z;subst z;rw[WW h];obtain⟨b,dM,H,F,_,hh,_,h1,h2,_⟩:=h;rw[rep,F];exact .inr ⟨b,_,_,rfl,gj q _ _ h1,gj q _ _ h2,U b 0 _ (by rw[F];exact wZ.2 rfl) (Lp hh)⟩
 |mr k e sz ks vs=>
  simp only[Ob.val,cB] at z;obtain⟨l,I,rfl⟩:=z;obtain⟨b,dM,H,us,F,_,hh,_,h1,h2,h3,h4,h5,h6⟩:=h;have R:=Be I;rw[F,rep];refine .inr ⟨b,_,dM.toList.map (·.val),rfl,gj q _ _ h1,?_,U b 0 _ (by rw[F];exact pg.2 (.inl rfl)) (Lp hh)⟩;have key:∀(l:List (List (List AV))) (B:List Value),B.length=l.length->(∀(i:Nat) xs,l[i]? =some xs->∃u,B[i]? =some u/\rep μ' (.dD sz xs) u)->cM μ' (l.map (.dD sz)) B:=by intro l;induction l with
   |nil=>intro B he _;rw[kW he];exact dA
   |cons x l ih=>intro B he D;cases B with
    |nil=>simp at he
    |cons u B=>
     obtain⟨u',V,hr⟩:=D 0 x ai;simp at V;subst V
     exact cE hr (ih B (by simpa using he) (λi xs hi=>by
      obtain⟨u2,hu2,hr2⟩:=D (i+1) xs (by assumption)
      exact⟨u2,by simpa using hu2,hr2⟩))
  refine key l _ (by simp[h3,R]) (λi xs hi=> ?_);obtain⟨u,cells,k1,k2,k3,k4,k5⟩:=h4 i xs (by rw[R];simp[hi]);exact⟨u,k2,BX k3 k4 q (λg j v hg=>U g j v (by rw[F];exact pg.2 (.inr ⟨u,aZ k1,hg⟩)))⟩
 |rn e sz k e' sz' xs ys=>
  simp[Ob.val,cB] at z;obtain⟨l,I,rfl⟩:=z;obtain⟨m,us,vs,F,_,G,O,hk,h2,h3,h4,h5,h6,h7⟩:=h;have R:=Be I;have S:xs.length=l.length:=by simp_all
  rw[F];show rep _ _ m;refine BX (by rw[Dt S];omega) (AI q hk.1 O S λi zs hi=> ?_) (Mu.le.refl _) λb j v hb hs=>U b j v (by simp_all[kA]) hs
  obtain⟨u,cells,k1,k2,k3,k4,k5⟩:=h4 i zs (by simp_all);grind[BX,kA]
open Classical in
noncomputable def sn (w:World) (loc:Nat->Value) (id:Nat) (μ:Mu):Mu:=λb j=>if lI (loc id) b then H7 w b j else μ b j
def Rel.adV (B:Rel N w0 μ0 L μ loc st a w) {id:Nat} {o:Ob} (H:st.ob id=some o) (hlt:id<10000) (f:SV->SV) (g:Ob->Ob) (hf:∀s v,fU (sn w loc id μ) loc s v->fU (sn w loc id μ) loc (f s) v)
  (hg:∀ob,g ob=match ob with| .box t cells=> .box t (cells.map f)|o=>o):
  μ.le (sn w loc id μ)/\Rel N w0 μ0 L (sn w loc id μ) loc { env:=λi=>(st.env i).map f,ob:=put (λi=>(st.ob i).map g) id none } a w:=by
 have I:=B.obs _ _ H;have hfs:∀(F) (R),ig (sn w loc id μ) loc F R->ig (sn w loc id μ) loc (F.map f) R:=by intro F;induction F with
  |nil=>simp
  |cons c F ih=>rintro R ⟨u,us,e,l,h2⟩;exact⟨u,us,e,hf _ _ l,ih _ h2⟩
 have G:μ.le (sn w loc id _):=λb j v D=>by
  by_cases z:lI (loc id) b
  .have:=(I.block b z).2.2 j;simp_all
  .simpa[sn,z] using D
 have S:∀i O,i≠id->st.ob i=some O->∀b,lI _ b->∀j,sn w loc id _ b j=none:=λi O hne q b z j=>by
  have hn :=λhid=>B.apart _ i _ _ H q (λe=>hne e.symm) b hid z
  simp[sn,au hn];exact(B.obs i _ q).block b z|>.2.2 j
 have l:=(B.drop id).world G (λb j v D=>by
   by_cases z:lI (loc id) b
   .exact .inr (B.BI hlt (I.block b z).1)
   simp_all[sn]) (λb j v D=>by
   by_cases z:lI (loc id) b
   .simpa[sn,z] using D
   .exact B.xZ b j v (by simpa[sn,z] using D)) (λi O q b z=>by
   grind[cZ,bR]) (λ_ _ _=>rfl) rfl rfl rfl (aU _)
 refine⟨G,l.small,l.names,l.fix,l.size,l.defers,?_,l.xZ,l.base,?_,?_,l.keep,l.os,l.tape,l.output,l.grown,l.drawn⟩
 .intro i s q;cases he:st.env i with
  |none=>simp_all
  |some s'=>simp[he] at q;subst q;obtain⟨v,D,hr⟩:=l.env i _ he;simp_all
 .intro i O q;by_cases U:id=i
  .simp_all[cZ]
  .simp[bR _ _ U] at q;cases ho:st.ob i with
   |none=>simp_all
   |some oj=>simp[ho] at q;subst q;have k:=l.obs i oj (by simp_all[bR]);rw[hg];cases oj with
    |box t cells=>obtain⟨b,R,hl,ho',hh,hm,hs,h1'⟩:=k;exact⟨b,R,hl,ho',hh,hm,hfs _ _ hs,h1'⟩
    |row V sz2 xs2=>exact k
    |mp k2 V ks2 vs2=>exact k
    |mr k2 V s2 ks2 vs2=>exact k
    |it s2 n2=>exact k
    |lp s2=>exact k
    |rn V s2 k2 e3 s3 x2 y2=>exact k
 .intro i j O oj q hj hij;have get:∀k ok,put (λi=>(st.ob i).map g) id none k=some ok->∃ok',st.ob k=some ok':=λk ok hk=>by
   by_cases U:id=k
   .simp_all
   .simp[bR _ _ U] at hk;cases ho:st.ob k with
    |none=>simp_all
    |some x=>simp
  obtain⟨oi',hi'⟩:=get i _ q;obtain⟨oj',hj'⟩:=get j _ hj;exact B.apart i j _ _ hi' hj' hij
def adU {id:Nat} (h:iG id=true):id<10000:=by simp_all[iG]
def Rel.cV (I:Rel N w0 μ0 L μ loc st a w) {id:Nat} (h:st.cV id=some st'):∃μ',μ.le μ'/\Rel N w0 μ0 L μ' loc st' a w:=by
 unfold St.cV at h;split at h
 .rename_i v G q;injection h with h;subst h;obtain⟨o,l,D⟩:=dm.1 q;have z:=I.obs _ _ l;have H:μ.le (sn w loc id _):=λb j v S=>by
   by_cases F:lI (loc id) b
   .have:=(z.block b F).2.2 j;simp_all
   .simpa[sn,F] using S
  have B :=QX z D H λb j v F O=>by simpa[sn,F] using O
  exact⟨_,I.adV l (adU G) _ _ (λs u R=>PO R B) (λU=>by rfl)⟩
 grind
def Rel.qy (F:Rel N w0 μ0 L μ loc st a w) {id:Nat} (h:st.qy id=some st'):∃μ',μ.le μ'/\Rel N w0 μ0 L μ' loc st' a w:=by
 unfold St.qy at h;split at h
 .rename_i t cells H z;split at h
  .rename_i cs G;injection h with h;subst h;obtain⟨b,vs,U,ho,hh,hm,l,S⟩:=F.obs _ _ z;have I:μ.le (sn w loc id μ):=λR j v hv=>by
    by_cases hb:lI (loc id) R
    .have:=((F.obs _ _ z).block _ hb).2.2 j;simp_all
    simp_all[AM.sn]
   have hc:lR _ _ _:=⟨gj I _ _ (Hj G l),S⟩
   refine⟨_,F.adV z (adU H) _ _ (λs u l=> ?_) (λob=>by rfl)⟩;cases s with
   |ptr j O=>simp[SV.qy];cases hj:Nat.beq j _ with
    |false=>exact l
    |true=>
     have:=beq_iff.1 hj;subst this;obtain⟨R,D,rfl⟩:=l;rw[U] at D;obtain⟨rfl,_⟩:=D;refine⟨b,_,_,rfl,hc.drop _,λk u V=> ?_⟩;rw[wJ] at V;have e:lI (loc j) b:=by rw[U];exact tj.2 rfl
     simp[AM.sn,aB e];exact xw (by rw[cell_of_row w b _ _ t _ hh];simp_all) (S u (aZ V))
   |undef=>assumption
   |any=>assumption
   |pv x=>assumption
   |row j=>exact jF l
   |rp j sz i O=>exact jF l
   |sub j sz lo hi=>exact jF l
   |cp c=>assumption
   |cl f B=>exact jF l
   |ag B=>exact jF l
   |aq j q=>exact jF l
   |two s b=>exact jF l
  grind
 grind
def Mx (S:Rel N w0 μ0 L μ loc st a w):∀{xs:List Operand} {st st':St} {μ:Mu},Rel N w0 μ0 L μ loc st a w->xk st xs=some st'->∃μ',μ.le μ'/\Rel N w0 μ0 L μ' loc st' a w:=by intro xs;induction xs with
 |nil=>grind[xk,Mu.le.refl]
 |cons x xs B=>intro st st' μ h l;cases x with
  |tmp i=>
   simp[xk] at l;split at l
   .rename_i id H U;cases G:st.qy id with
    |none=>simp_all
    |some I=>rw[G] at l;obtain⟨O,q,D⟩:=h.qy G;obtain⟨R,z,F⟩:=B D l;exact⟨_,q.trans z,F⟩
   grind
  |const v=>exact B h l
  |func f=>exact B h l
  |global g=>exact B h l
def Wd (F:Fence):Prop:=F.plain=Fence.wide
def Wd.fn {F:Fence} (h:Wd F) (f:FuncId):F.fn f:=by
 have:F.plain.fn=Fence.wide.fn:=aP _ h
 have:F.fn=Fence.wide.fn:=this
 rw[this];trivial
def Wd.depth {F:Fence} (h:Wd F):F.depth=none:=by
 have:F.plain.depth=Fence.wide.depth:=aP _ h
 exact this
def Wd.one {F:Fence} (h:Wd F) {p:Prop}:F.depth.isSome=true->p:=λe=>by rw[h.depth] at e;cases e
theorem Wd.plain {F:Fence} (h:Wd F) (l:F.round=none):F=Fence.wide:=by have:=h;unfold Wd Fence.plain at this;rw[<-l] at this;omega
def Wd.wide:Wd Fence.wide:=rfl
end
end Go.AM
namespace Go
def Oper.uh (P:Program) (o:Oper) (a:Act) (w:World) (K:Act->World->Prop) (Q:Exit->Act->World->Prop):Prop:=∀F,AM.Wd F->o.wpIn F 0 P a w K Q
end Go
namespace Go.AM
open Go.RowKit
section
variable {P:Program} {N:Nat} {w0:World} {μ0:Mu} {L:sQ} {μ:Mu} {loc:Nat->Value} {st st':St} {a:Act} {w:World} {Q:Exit->Act->World->Prop} {K:Act->World->Prop}
def L9 {o:Oper} {x:Next} {w':World} (l:∀c,o.op≠ .defer c) (z:(execOp a.eval o).run P w= .ok x w') (h:∀F,Wd F->o.uponIn F 0 P a K Q (.ok x w')):o.uh P a w K Q:=λF q=>by unfold Oper.wpIn;rw[Oper.semAt_eq _ _ _ l,z];exact⟨λf _=>q.fn f,h F q⟩
def F6 {o:Oper} {w':World} (l:(execOp a.eval o).run P w= .ok .skip w') (q:K (a.put o.dst undef) w'):o.uh P a w K Q:=
 L9 (λc B=>by unfold execOp at l;cases D:(resolve a.eval c o.type).run P w with
  |ok d z=>simp_all
  |halt e z=>simp_all) l λ_ _=>q
def gB {o:Oper} {v:Value} {w':World} (l:(execOp a.eval o).run P w= .ok (.value v) w') (q:K (a.put o.dst v) w'):o.uh P a w K Q:=
 L9 (λc B=>by unfold execOp at l;cases D:(resolve a.eval c o.type).run P w with
  |ok d z=>simp_all
  |halt e z=>simp_all) l λ_ _=>q
def mE (N:Nat) (w0:World) (μ0:Mu) (L:sQ) (st':St) (K:Act->World->Prop):Prop:=∀q z μ' l,Rel N w0 μ0 L μ' l st' q z->K q z
def pO (z:Rel N w0 μ0 L μ loc st a w) {o:Oper} {l:SV} (B:∀i,o.dst=some i->i<N) (D:oF P μ loc o l a w) (q:mE N w0 μ0 L (st.set o.dst l) K):o.uh P a w K Q:=by obtain⟨v,F,G⟩:=D;exact gB F (q _ _ _ _ (z.set B G))
def uq (l:Rel N w0 μ0 L μ loc st a w):∀b,w.heap.size<=b->∀j,μ b j=none:=λb z j=>by cases q:μ b j with
 |none=>rfl
 |some v=>have:=sF (l.xZ b j v q);omega
def tL (w:World) (o:Obj):Below w.heap.size w (w.alloc o):=(ij _ _).alloc (aU _) o
def Rel.made (q:Rel N w0 μ0 L μ loc st a w) {d:Nat} (G:d<N) {x:Obj} {val:Value} {o:Ob} {B:SV} (l:∀g,lI val g->g=w.heap.size)
  (z:nv w0.heap.size L μ (qG loc d val) (w.alloc x) d o) (R:fU μ (qG loc d val) B val):
  Rel N w0 μ0 L μ (qG loc d val) ((st.new d o).set (some d) B) (a.put (some d) val) (w.alloc x):=by
 have D:=(q.Xn (tL w x)).new (.inl (e8 G q.small)) z (λj U I O g H=>by
  have:=l g H;intro F;have:=((q.obs j _ I).block _ F).2.1
  omega)
 exact D.set (λi S=>by simp_all) R
def Rel.made' (q:Rel N w0 μ0 L μ loc st a w) {d:Nat} (G:d<N) {x:Obj} {val u:Value} {o:Ob} {B:SV} (l:∀g,lI val g->g=w.heap.size)
  (z:nv w0.heap.size L μ (qG loc d val) (w.alloc x) d o) (R:fU μ (qG loc d val) B u):
  Rel N w0 μ0 L μ (qG loc d val) ((st.new d o).set (some d) B) (a.put (some d) u) (w.alloc x):=by
 have D:=(q.Xn (tL w x)).new (.inl (e8 G q.small)) z (λj U I O g H=>by
  have:=l g H;intro F;have:=((q.obs j _ I).block _ F).2.1
  omega)
 exact D.set (λi S=>by simp_all) R
def EI {o:Oper} {t:TypeId} {d:Nat} {v:Value} {cells:List SV} (q:Rel N w0 μ0 L μ loc st a w) (D:d<N) (l:o.dst=some d)
  (F:(execOp a.eval o).run P w= .ok (.value (.pointer (some ⟨w.heap.size,0,none⟩))) (w.alloc (.cells v.cells t)))
  (G:ig μ (qG loc d (.pointer (some ⟨w.heap.size,0,none⟩))) cells v.cells.toList) (z:∀u∈v.cells.toList,u.oneCell'=true)
  (B:mE N w0 μ0 L ((st.new d (.box t cells)).set (some d) (.ptr d 0)) K):o.uh P a w K Q:=by
 refine gB F ?_;rw[l];refine B _ _ _ _ (q.made D (by simp[lI,bH]) ?_ ?_)
 .refine⟨_,_,cI _ _ _, .inl q.grown,?_,uq q _ (aU _),G,z⟩;exact q8 w _
 .exact⟨_,cI _ _ _,rfl⟩
def Wf (S:Rel N w0 μ0 L μ loc st a w) {s:SV} {v:Value} (h:oI st s=true) (k:fU μ loc s v):v.oneCell'=true/\v.cells= #[v]:=by cases s with
 |undef=>simp[oI] at h
 |any=>simp[oI] at h
 |pv x=>cases x with
  |agg O=>simp[oI] at h
  |iQ O=>simp[oI] at h
  |self n=>simp[fU,rep] at k
  |rD=>subst k;exact⟨rfl,rfl⟩
  |tR=>subst k;exact⟨rfl,rfl⟩
  |hole=>assumption
  |bool b=>subst k;exact⟨rfl,rfl⟩
  |int q n=>subst k;exact⟨rfl,rfl⟩
  |str q=>subst k;exact⟨rfl,rfl⟩
  |dD G xs=>obtain⟨A,c,rfl,_⟩:=k;exact⟨rfl,rfl⟩
  |fn f B=>obtain⟨F,rfl,_⟩:=k;exact⟨rfl,rfl⟩
  |ref O=>obtain⟨b,D,F,rfl,_⟩:=k;exact⟨rfl,rfl⟩
  |mp ks es=>rcases k with⟨rfl,_⟩|⟨b,kv,ev,rfl,_⟩<;>exact⟨rfl,rfl⟩
 |ptr id D=>obtain⟨b,_,rfl⟩:=k;exact⟨rfl,rfl⟩
 |row id=>
  simp[oI] at h;split at h
  .rename_i e G xs l;obtain⟨F,z,_⟩:=S.obs _ _ l;have e :=k;rcases z.2 with⟨e1,_⟩|⟨g,H,R,e1,_⟩<;>(rw[e,e1];exact⟨rfl,rfl⟩)
  .rename_i k' V ks F l;obtain⟨b,dM,I,U,_⟩:=S.obs _ _ l;have e :=k;rw[e,U];exact⟨rfl,rfl⟩
  .rename_i V G q e2 s2 xs ys l;obtain⟨m,us,F,U,_,z,_⟩:=S.obs _ _ l;have e:v=m:=(k).trans (by rw[U];rfl);rcases z.2 with⟨e1,_⟩|⟨g,H,R,e1,_⟩<;>(rw[e,e1];exact⟨rfl,rfl⟩)
  grind
 |rp id G i D=>obtain⟨g,n,c,_,rfl⟩:=k;exact⟨rfl,rfl⟩
 |sub id G lo hi=>simp[oI] at h
 |two s b=>simp[oI] at h
 |cp O=>obtain⟨b,D,F,rfl,_⟩:=k;exact⟨rfl,rfl⟩
 |cl f B=>obtain⟨F,rfl,_⟩:=k;unfold clV;cases Nat.blt f _ with
  |true=>exact⟨rfl,rfl⟩
  |false=>cases Nat.blt f _ with
   |true=>exact⟨rfl,rfl⟩
   |false=>split<;>exact⟨rfl,rfl⟩
 |ag B=>simp[oI] at h
 |aq j q=>simp[oI] at h
def sU {loc:Nat->Value}:∀{caps:List oE} {l:List Value},kT μ loc caps l->ig μ loc (caps.map JT) l
 |[],l,h=>h
 |c::D,l,⟨u,B,e,q,z⟩=>by refine⟨u,B,e,?_,sU z⟩;cases c with
  |v a=>exact q
  |p id=>exact q
  |r id=>exact q
def Pc (hR:Rel N w0 μ0 L μ loc st a w) {t:TypeId} {len:Nat} {l:Array (Nat×Operand)} {e:TypeId} {s:Nat} {xs:List (List AV)} (h:lC P t len l.toList st=some (e,s,xs)):
  ∃vs:List Value,(Instr.buildSlice t len (l.map λp=>(p.1,a.eval p.2))).run P w= .ok (.slice (some ⟨w.heap.size,0,none⟩) len len) (w.alloc (.cells vs.toArray e))/\cT μ s xs vs/\xs.length=len/\len<=maxLen/\0<s:=by
 unfold lC at h;split at h
 .rename_i e' B hs;obtain⟨hu,inf,q,O⟩:=fZ hs;split at h
  .rename_i z G hz hps;split at h
   .rename_i hc;obtain⟨I,D,hzl,hnt⟩:=hc;cases hf:yd (λi=>some (i *B,B)) (tU z len) G with
    |none=>simp_all
    |some S=>
     simp[hf] at h;obtain⟨rfl,rfl,rfl⟩:=h;obtain⟨i,v,U,hv,H⟩:=oA (μ:=μ) hz;rw[q] at U;injection U with U;subst U;obtain⟨h1,h2⟩:=xV hR hps;have hzc :=by have:=H.length;simpa[hzl] using this
     obtain⟨ws,R,hr⟩:=DH (us:=l.toList.map λp=>(p.1,a.eval p.2)) hf (Fv H _) (by simp_all) (by simp_all[nx]) (λp hp x e=>by
      have:=cH.1 hnt p hp
      rw[e] at this;cases this)
     have hcl:S.length=len *B:=by
      have key:∀(G) (cells S),yd (λi=>some (i *B,B)) cells G=some S->S.length=cells.length:=by intro G;induction G with
       |nil=>simp_all[yd]
       |cons p G ih=>grind[yd]
      grind[AF]
     refine⟨ws,?_,AH _ hr hcl,C1 _ _ _,by simp[maxLen];have:len *1<=len *B:=Bb _ D;omega,D⟩;have F:(replicate len v.cells.toList).flatten.toArray=madeCells v.cells (len *B):=by grind[vm]
     rw[F] at R;by_cases V:len *B=0
     .have e0:madeCells v.cells (len *B)= #[]:=by rw[V];simp[madeCells]
      rw[e0] at R;simp[Instr.buildSlice,bM hu,sizeOf,typeInfo,q,O,V,R,newRow,Array.range_zero']
     .simp[madeCells] at R;simp[Instr.buildSlice,bM hu,sizeOf,typeInfo,q,O,V,zeroValue,hv,R,newRow,I]
   grind
  grind
 grind
def Ow {o:Oper} {t:TypeId} {len:Nat} {l:Array (Nat×Operand)} {d e s:Nat} {xs:List (List AV)} (D:Rel N w0 μ0 L μ loc st a w) (R:d<N) (B:o.dst=some d) (S:o.op= .buildSlice t len l)
  (h:lC P t len l.toList st=some (e,s,xs)) (O:mE N w0 μ0 L ((st.new d (.row e s xs)).set (some d) (.row d)) K):o.uh P a w K Q:=by
 obtain⟨I,U,q,z,G,H⟩:=Pc D h;refine gB (v:= .slice (some ⟨w.heap.size,0,none⟩) len len) (w':=w.alloc (.cells I.toArray e)) (by simp_all[execOp]) ?_;rw[B];refine O _ _ _ _ (D.made R (by simp[lI,bH]) ?_ (Lh rfl));refine⟨I,⟨by rw[dc q], .inr ⟨_,_,_,?_,cW _,q8 w _,by omega,G,?_,?_⟩⟩,q,λg F=> ?_⟩
 .rw[cI,z]
 .grind[dc]
 .rw[z,<-z,<-dc q];simp
 .rw[cI] at F;simp[lI,bH] at F;subst F;exact⟨.inl D.grown,uq D _ (aU _)⟩
def zV {k:Nat} {c:List AV} (h:qI k c=true):c[k]? =some .tR:=by grind[qI]
def wA {q k:Nat}:∀{xs:List (List AV)} {z:List Value},cT μ q xs z->xs.all (qI k)=true->k<q->cT μ q (xs.map λc=>c.set k .hole) z/\∀i,i<xs.length->z[i *q+k]? =some (.slice none 0 0)
 |[],z,h,_,_=>⟨h,λi D=>by simp at D⟩
 |x::xs,z,⟨F,ws,e,B,G,H⟩,l,I=>by subst e;simp only[jC,aS] at l;have S:=zV l.1;obtain⟨U,V⟩:=wA H l.2 I;obtain⟨v,R,O⟩:=s7 B.1 S;subst O;refine⟨⟨F,ws,rfl,⟨K7 B.1 R (by simp[rep,Value.oneCell',Value.cells]),B.2⟩,G,U⟩,λi D=> ?_⟩;cases i with
  |zero=>grind
  |succ i=>rw[fK (by grind),show(i+1) *q+k-F.length=i *q+k by grind];simp_all
def Mm {o:Oper} {t:TypeId} {len:Nat} {l:Array (Nat×Operand)} {d e s k e' s':Nat} {xs:List (List AV)} (R:Rel N w0 μ0 L μ loc st a w) (hd:d<N) (G:o.dst=some d) (ho:o.op= .buildSlice t len l)
  (h:lC P t len l.toList st=some (e,s,xs)) (hk:k<s) (B:xs.all (qI k)=true) (hK:mE N w0 μ0 L ((st.new d (.rn e s k e' s' (xs.map λc=>c.set k .hole) (xs.map λ_=>some []))).set (some d) (.row d)) K):o.uh P a w K Q:=by
 obtain⟨vs,hr,D,O,hml,hpos⟩:=Pc R h;obtain⟨I,H⟩:=wA D B hk;refine gB (v:= .slice (some ⟨w.heap.size,0,none⟩) len len) (w':=w.alloc (.cells vs.toArray e)) (by simp_all[execOp]) ?_;rw[G];have hown:(w.alloc (.cells vs.toArray e)).ownsRow 0 e s _ _ _:=
  ⟨by rw[dc D,O], .inr ⟨_,_,_,rfl,cW _,q8 w _,by omega,hml,by grind[dc],by rw[<-O,<-dc D];simp⟩⟩
 refine hK _ _ _ _ (R.made' (val:= .tuple (.slice _ _ _::xs.map λ_=> .slice none 0 0).toArray) hd (λg z=> ?_) ?_ (rowS' rfl))
 .rcases kA.1 z with z|⟨u,F,z⟩
  .simp_all[bH]
  .obtain⟨c,_,rfl⟩:=aD.1 F;simp[bH] at z
 .refine⟨_,_,vs,cI _ _ _,λq hq=> ?_,by simp_all,I,⟨hk,λc S=> ?_⟩,by simp,by simp,λi zs V=> ?_,λi V=> ?_,λu F g z=> ?_,λi j u v F hv hij g z=> ?_⟩
  .simp[bH] at hq;subst hq;exact⟨.inl R.grown,uq R _ (aU _)⟩
  .obtain⟨c',U,rfl⟩:=aD.1 S;have:=zV (cH.1 B _ U);grind
  .simp only[dN,cB] at V;obtain⟨c,S,e1⟩:=V;simp at e1;subst e1;exact⟨_,[],by simp[S],H i (bQ.1 S).1,⟨ai, .inl ⟨rfl,rfl⟩⟩,rfl,λg z=>by simp[bH] at z⟩
  .simp_all
  .obtain⟨c,_,rfl⟩:=aD.1 F;simp[bH] at z
  .simp at F;obtain⟨c,_,rfl⟩:=F;simp[bH] at z
theorem Vb {o:Oper} {t:TypeId} {len:Nat} {l:Array (Nat×Operand)} {e s:Nat} {xs:List (List AV)} (z:Rel N w0 μ0 L μ loc st a w) (U:∀i,o.dst=some i->i<N) (ho:o.op= .buildSlice t len l)
  (h:lC P t len l.toList st=some (e,s,xs)) (S:mE N w0 μ0 L (st.set o.dst (.pv (.dD s xs))) K):o.uh P a w K Q:=by
 obtain⟨H,hr,G,hxl,V,O⟩:=Pc z h;refine gB (v:= .slice (some ⟨w.heap.size,0,none⟩) len len) (w':=w.alloc (.cells H.toArray e)) (by simp_all[execOp]) ?_;let μ' :=λb j=>if b=w.heap.size then H[j]? else μ b j
 have F:=uq z;have D:μ.le μ':=λb j v B=>by grind
 have R:=z.grow (w':=w.alloc (.cells H.toArray e)) ⟨D,λb j v B=>by
   grind⟩ (λb j v B=>by
   by_cases I:b=w.heap.size
   .subst I;have q :=by simpa[μ'] using B
    exact xw (by simp[q]) (kU G v (aZ q))
   .have q :=by simpa[μ',I] using B
    exact z.Tv (tL w _) b j v q) (tL w _)
 refine S _ _ _ _ (R.set U ?_);show rep _ _ _;rw[rep];grind[AG]
def BQ (D:Rel N w0 μ0 L μ loc st a w):∀{z:List (Nat×Operand)} {i:Nat} {B:List SV},BP P st i z=some B->
  ig μ loc B (z.map λp=>a.eval p.2)/\z.map (·.1)=List.range' i z.length/\B.length=z.length/\∀p∈z,∃q,a.eval p.2= .pointer q
 |[],i,B,h=>by simp[BP] at h;subst h;simp[ig]
 |(j,x)::l,i,B,h=>by
  unfold BP at h;split at h
  .rename_i id off vs' I V;cases F:Nat.beq i j with
   |false=>rw[F] at h;cases h
   |true=>
    rw[F] at h;simp only[ak,aW] at h;subst h;obtain⟨O,R,S,U⟩:=BQ D V;have hv:=bf D I;have G:=tI F;subst G;obtain⟨b,_,e⟩:=hv;refine⟨⟨_,_,rfl,bf D I,O⟩,by simp[q9,R],by simp[S],λp H=> ?_⟩;rcases aJ.1 H with rfl|H
    .exact⟨_,e⟩
    .exact U p H
  .cases h
def M5:∀(l:List (Nat×Value)) (pre post:List Value),l.map (·.1)=List.range' pre.length l.length->post.length=l.length->(∀p∈l,p.2.cells= #[p.2])->
  Instr.fill (λi=>some (i *1,1)) (pre++post).toArray l=some (pre++l.map (·.2)).toArray
 |[],pre,post,_,q,_=>by
  have:post=[]:=kW (by simpa using q)
  subst this;simp[Instr.fill]
 |(j,v)::l,pre,[],_,q,_=>by simp at q
 |(j,v)::l,pre,x::post,h,q,B=>by
  simp only[bw,bp,q9,cS] at h;obtain⟨rfl,h⟩:=h;have D:v.cells= #[v]:=B (pre.length,v) ai;have F:=M5 l (pre++[v]) post (by simpa using h) (by simpa using q) (λp q=>B p (by simp[q]));simp only[Instr.fill];rw[au (by simp[D])];have e:(Array.foldl (λz (x:Value×Nat)=>z.setIfInBounds (pre.length *1+x.2) x.1) (pre++x::post).toArray v.cells.zipIdx)=(pre++[v]++post).toArray:=by rw[D];simp
  rw[show(v.cells.zipIdx.foldl (λz (c,j)=>z.setIfInBounds (pre.length *1+j) c) (pre++x::post).toArray)=(pre++[v]++post).toArray from e,F];simp
def RX {o:Oper} {t:TypeId} {len:Nat} {l:Array (Nat×Operand)} {d:Nat} {st':St} (H:Rel N w0 μ0 L μ loc st a w) (hd:d<N) (G:o.dst=some d) (ho:o.op= .buildSlice t len l)
  (h:Pb P st d t len l.toList=some st') (hK:mE N w0 μ0 L st' K):o.uh P a w K Q:=by
 unfold Pb at h;split at h
 .rename_i e vs hs S;split at h
  .rename_i z0 hz;cases I:(Nat.beq vs.length len&&Nat.blt 0 len&&Nat.blt len 100) with
   |false=>rw[I] at h;cases h
   |true=>
    rw[I] at h;simp only[ak,aW] at h;subst h;simp only[aS,cN] at I;obtain⟨⟨hl,h0⟩,h100⟩:=I;have hl:=tI hl;obtain⟨hu,inf,B,hsz⟩:=fZ hs;obtain⟨i,v,O,hv,R⟩:=oA (μ:=μ) hz;rw[B] at O;injection O with O;subst O;have F:v.cells.size=1:=by have:=R.length;simpa using this
    obtain⟨k1,k2,k3,k4⟩:=BQ H S;have U:l.toList.length=len:=af
    have z:=M5 (l.toList.map λp=>(p.1,a.eval p.2)) [] (replicate len v.cells.toList).flatten (by simpa[nx] using k2) (by simp[U,F]) (λp S=>by
     obtain⟨q,V,rfl⟩:=aD.1 S;obtain⟨x,e⟩:=k4 q V
     simp[e,Value.cells])
    have D:(replicate len v.cells.toList).flatten.toArray=madeCells v.cells (len *1):=by have:=vm v.cells 1 F af len;rw[<-this]
    simp only[dK,D] at z;have hrun:(Instr.buildSlice t len (l.map λp=>(p.1,a.eval p.2))).run P w= .ok (.slice (some ⟨w.heap.size,0,none⟩) len len) (w.alloc (.cells ((l.toList.map λp=>a.eval p.2).toArray) e)):=by have hne:¬len *1=0:=af;simp only[madeCells,fo] at z;simp[Instr.buildSlice,bM hu,sizeOf,typeInfo,B,hsz,zeroValue,hv,newRow] at z⊢;rw[au af,au af];simp_all[nx]
    refine gB (v:= .slice (some ⟨w.heap.size,0,none⟩) len len) (w':=w.alloc (.cells ((l.toList.map λp=>a.eval p.2).toArray) e)) (by simp_all[execOp]) ?_;rw[G];refine hK _ _ _ _ (H.made' (val:= .pointer (some ⟨w.heap.size,0,none⟩)) hd (by simp[lI,bH]) ?_ ⟨_,cI _ _ _,rfl⟩);refine⟨_,_,cI _ _ _, .inl H.grown,q8 w _,uq H _ (aU _),xm _ _ k1,λu hu=> ?_⟩;obtain⟨q,V,rfl⟩:=aD.1 hu;obtain⟨x,e⟩:=k4 q V;simp[e,Value.oneCell']
  .cases h
 .cases h
def abk {o:Oper} {t:TypeId} {l c:Operand} {d e s:Nat} {kl kc:IntKind} {nl D:Int} {z:List AV} {i:TypeInfo} (G:Rel N w0 μ0 L μ loc st a w) (hd:d<N) (O:o.dst=some d) (ho:o.op= .makeSlice t l c)
  (hs:isSlice P t=some (e,s)) (hl:(bD P 0 st l).bind iY =some (.int kl nl)) (hc:(bD P 0 st c).bind iY =some (.int kc D)) (hz:zeroCells P e=some z) (U:P.info? e=some i)
  (F:0<s/\z.length=s/\0<=nl/\nl<=D/\i.bytes *D.toNat<=281474976710656/\D<=9223372036854775807)
  (hK:mE N w0 μ0 L ((st.new d (.row e s (replicate nl.toNat z))).set (some d) (.row d)) K):o.uh P a w K Q:=by
 obtain⟨hpos,hzl,h0,hlc,hby,h63⟩:=F;obtain⟨hu,S,q,hsz⟩:=fZ hs;rw[q] at U;injection U with U;subst U;obtain⟨i',v,B,hv,I⟩:=oA (μ:=μ) hz;rw[q] at B;injection B with B;subst B;have hzc :=by have:=I.length;simpa[hzl] using this
 have hlv:=fP G hl;have V:=fP G hc;rw[rep] at hlv V;have H :=by have e1:((S.bytes *D.toNat:Nat):Int)<=281474976710656:=af;rw[Int.natCast_mul,Int.toNat_of_nonneg af] at e1;exact e1
 have hr:=run_make w t e _ v hu q hv kl kc _ _ h0 hlc H h63;refine gB (v:= .slice (some ⟨w.heap.size,0,none⟩) nl.toNat D.toNat) (w':=w.alloc (.cells (madeCells v.cells (D.toNat *S.size)) e)) (by simp_all[execOp]) ?_;rw[O];refine hK _ _ _ _ (G.made hd (by simp[lI,bH]) ?_ (Lh rfl));have R:=qT I af nl.toNat;refine⟨_,⟨dc R, .inr ⟨_,D.toNat,_,?_,cW _,q8 w _,?_,?_,?_,?_⟩⟩,R,λg hg=> ?_⟩
 .rw[cI];simp
 .simp;omega
 .simp[maxLen];omega
 .rw[size_madeCells,hsz]
 .grind[vm,QS,Array.length_toList]
 .rw[cI] at hg;simp[lI,bH] at hg;subst hg;exact⟨.inl G.grown,uq G _ (aU _)⟩
def eff_nil {o:Oper} {d e s:Nat} (q:Rel N w0 μ0 L μ loc st a w) (D:d<N) (l:o.dst=some d) (G:o.op= .assign (.const (.slice none 0 0)))
  (B:mE N w0 μ0 L ((st.new d (.row e s [])).set (some d) (.row d)) K):o.uh P a w K Q:=by
 refine gB (v:= .slice _ 0 0) (by unfold execOp;rw[G];rfl) ?_;rw[l];refine B _ _ _ _ ((q.new (.inl (e8 D q.small)) ?_ (λj O I F g z=>by simp[lI,bH] at z)).set (λi H=>by simp_all) (Lh rfl));refine⟨[],⟨ai, .inl ⟨cI _ _ _,rfl⟩⟩,rfl,λg z=> ?_⟩;simp_all[cI,lI,bH]
def Lj {t e ty:TypeId} {l:TypeInfo} {v:Value} (F:P.underlying t=some (.slice e)) (z:P.info? e=some l) (G:l.zero=some v) {q:Addr} {n c:Nat} (D:0<n) {w':World} (B:(storeCells q (Builtin.zeroCells v.cells n).toList).run P w= .ok () w'):
  (Builtin.clear_ #[t] ty #[.slice (some q) n c]).run P w= .ok (.tuple #[]) w':=by
 obtain⟨k,rfl⟩:∃k,n=k+1:=⟨n-1,af⟩
 simp_all[Builtin.clear_,bM,zeroValue,typeInfo]
def Zj {o:Oper} {c:Call} {t e e':TypeId} {s id sz V l q:Nat} {x:Operand} {xs:List (List AV)} {z:List AV} (hR:Rel N w0 μ0 L μ loc st a w) (H:o.dst=none) (ho:o.op= .call c) (hc:c.callee= .builtin .clear) (ha:c.args.toList=[x]) (ht:c.argTypes.toList=[t])
  (hs:isSlice P t=some (e,s)) (hx:bD P t st x=some (.sub id sz l q)) (R:st.ob id=some (.row e' V xs)) (hz:zeroCells P e=some z) (O:s=sz/\sz=V/\z.length=sz/\q<=xs.length/\e=e'/\0<sz)
  (hK:mE N w0 μ0 L { st with ob:=put st.ob id (some (.row e' V (xs.take l++replicate (q-l) z++xs.drop q))) } K):o.uh P a w K Q:=by
 obtain⟨rfl,rfl,hzl,hhi,rfl,hpos⟩:=O;obtain⟨callee,⟨args⟩,⟨argTypes⟩⟩:=c;simp only at hc ha ht;subst hc;subst ha;subst ht;obtain⟨hu,inf,I,hsz⟩:=fZ hs;obtain⟨A,n,cp,A',c',Ss,hlo,hhn,hcc,hxv,_,hg⟩:=bf hR hx;obtain⟨vs,hown,S,hm⟩:=hR.obs id _ R;by_cases hlt:l<q
 .obtain⟨g,rfl,rfl⟩:=hg hlt;obtain⟨D,B,hloc',F,hnc,hcm,hcs,Nd⟩:∃D B,loc id= .slice (some ⟨g,0,none⟩) xs.length D/\w.heap[g]? =some (.cells B e (0,0))/\xs.length<=D/\D<=maxLen/\B.size=D *s/\B.toList.take (xs.length *s)=vs:=by
   rcases hown.2 with⟨_,e2⟩|⟨g',D,B,e1,_,h2,h3,h4,h5,h6⟩
   .omega
   simp_all
  obtain⟨i',v,G,hv,hcz⟩:=oA (μ:=μ) hz;rw[I] at G;injection G with G;subst G;have hzc:v.cells.size=s:=by have:=hcz.length;simpa[hzl] using this
  have hzs:(Builtin.zeroCells v.cells (q-l)).toList=(replicate (q-l) v.cells.toList).flatten:=by rw[<-vm v.cells s hzc hpos (q-l)];simp[Builtin.zeroCells,madeCells,hzc]
  have U:=qT (sz:=s) hcz af (q-l);have HF:((replicate (q-l) v.cells.toList).flatten).length=(q-l) *s:=by have:=dc U;simpa using this
  have hvl:=dc S;have hcl:xs.length *s<=B.size:=by rw[hcs];exact jV _ hnc
  have hmul:l *s+(q-l) *s=q *s:=by rw[<-jA];congr 1;omega
  have hhis:q *s<=xs.length *s:=jV _ hhi;have hsc:=wN P g (l *s) e (replicate (q-l) v.cells.toList).flatten 0 B w F af (kU U);simp only[mb,HF] at hsc;have abT:=oq (oq (lu S l) U) (Dm S q);have hxl':(xs.take l++replicate (q-l) z++xs.drop q).length=xs.length:=by simp;omega
  have hrun:=Lj (P:=P) (ty:=o.type) (c:=c') (n:=q-l) hu I hv af (by rw[hzs];omega);refine gB (v:= .tuple #[]) (w':=w.setRow g (B.toList.take (l *s)++(replicate (q-l) v.cells.toList).flatten++B.toList.drop (l *s+(q-l) *s)).toArray) (by simp_all[execOp,resolve,invoke,builtin,jB,tJ,kV,List.map_toArray,bw,di]) ?_;rw[H];refine hK _ _ _ _ (hR.write R (g:=g) (by rw[Ss];exact ia.2 rfl) (λk hk=>wO w g k _ hk) rfl rfl rfl ai ?_);refine⟨_,⟨?_, .inr ⟨g,D,_,?_,cW _,Bc w g B _ e _ F,?_,hcm,?_,?_⟩⟩,abT,λg' hg'=>hm g' hg'⟩
  .grind
  .simp_all
  .omega
  .grind
  grind[Nat.mul_le_mul_right,Nat.min_eq_left,List.drop_take,replicate,List.length_append,List.length_take,List.take,List.drop,List.take_append,List.take_of_length_le]
 .have h0:q-l=0:=af;have e0:xs.take l++replicate (q-l) z++xs.drop q=xs:=by
   rw[show l=q from by omega];simp
  rw[e0] at hK
  refine gB (v:= .tuple #[]) (w':=w) (by
   unfold execOp;rw[ho];simp[resolve,invoke,builtin,hxv,h0,Builtin.clear_,bM hu]
   cases A'<;>simp) ?_
  rw[H];refine hK _ _ μ loc ?_
  have:put st.ob id (some (.row e s xs))=st.ob:=by
   funext i;by_cases e:id=i
   .subst e;rw[cZ,R]
   .rw[bR _ _ e]
  rw[this];exact hR
def J4 {o:Oper} {t:TypeId} {x y:Operand} {sa sv:SV} (hR:Rel N w0 μ0 L μ loc st a w) (AP:o.dst=none) (ho:o.op= .store t x y)
  (S:fU μ loc sa (a.eval x)) (Re:fU μ loc sv (a.eval y)) (h:storeAt P t st sa sv=some st') (hK:mE N w0 μ0 L st' K):o.uh P a w K Q:=by
 have fin:∀(ad:Addr) (w':World),a.eval x= .pointer (some ad)->(storeVar t ad (a.eval y)).run P w= .ok () w'->Rel N w0 μ0 L μ loc st' a w'->o.uh P a w K Q:=λad w' e hr hR'=>by refine F6 (w':=w') ?_ (by rw[AP];exact hK _ _ _ _ hR');simp_all[execOp,Instr.storeAt,Instr.sureAddr,jB,tJ,kV]
 unfold storeAt at h;split at h
 .rename_i id l;obtain⟨b,hl,S⟩:=S;split at h
  .rename_i bt cells n R hsz;obtain⟨b',I,hl',hnF,B,C8,hss,h1⟩:=hR.obs id _ R;rw[hl] at hl';simp only[A7,aW,A8,eH] at hl';subst hl';have hlen:=qk hss;have U:∀(D:List Value) (sus:List SV),(a.eval y).cells.toList=D->D.length=n->l+n<=I.length->(∀u∈D,u.oneCell'=true)->ig μ loc sus D->
     st'={ st with ob:=put st.ob id (some (.box bt (cells.take l++sus++cells.drop (l+n)))) }->o.uh P a w K Q:=by
    intro D sus AQ HF hle G hsus hst;have hsc:=wN P b l bt D 0 I.toArray w B aH G;simp only[mb] at hsc
    refine fin ⟨b,l,none⟩ _ S (by
     have:(a.eval y).cells.size=n:=by rw[<-HF,<-AQ];simp
     simp only[storeVar,jB,lz hsz,kV,this,ne_eq,rf,eP,tJ,AQ]
     omega) ?_
    rw[hst];refine hR.write R (g:=b) (by rw[hl];exact tj.2 rfl) (λk hk=>wO w b k _ hk) rfl rfl rfl ai ?_;refine⟨b,I.take l++D++I.drop (l+n),hl,hnF,?_,C8,?_,?_⟩
    .grind[setRow_heap]
    .grind[mz,D0,DZ]
    .grind
   split at h
   .rename_i cs;split at h
    .rename_i q;injection h with h;obtain⟨D,e,V,G⟩:=Re;have hs:=sU V;exact U D (cs.map JT) (by rw[e];rfl) (by grind[qk,List.length_map]) af G hs h.symm
    grind
   .rename_i cs;split at h
    .rename_i q;injection h with h;have Sw:=Re;simp only[fU,rep] at Sw;obtain⟨D,e,V,G⟩:=Sw;exact U D (cs.map .pv) (by rw[e];rfl) (by grind[tB]) af G (sw V) h.symm
    grind
   .split at h
    .rename_i q;injection h with h;obtain⟨ho1,hc1⟩:=Wf hR q.2.2 Re;refine U [a.eval y] [sv] (by rw[hc1]) (by simp_all) af (by simp_all) ⟨_,[],rfl,Re,rfl⟩ ?_;simp_all[Hh,aB]
    grind
  grind
 .rename_i id H i l;obtain⟨g,n',cp,hl,S⟩:=S;split at h
  .rename_i e sz' xs n v R hsz;split at h
   .rename_i c hg;split at h
    .rename_i q;obtain⟨rfl,hvl,hle,hnt⟩:=q;injection h with h;rw[jj (hR.obs id _ R)] at hl;obtain⟨I,hown,hrc,hm⟩:=hR.obs id _ R;have hil:i<xs.length:=(bQ.1 hg).1;obtain⟨O,F,Ss,B,hnc,hcm,hcs,Nd⟩:∃O F,loc id= .slice (some ⟨g,0,none⟩) xs.length O/\w.heap[g]? =some (.cells F e (0,0))/\xs.length<=O/\O<=maxLen/\F.size=O *H/\F.toList.take (xs.length *H)=I:=by
      rcases hown.2 with⟨_,e2⟩|⟨g',O,F,e1,_,h2,h3,h4,h5,h6⟩
      .omega
      simp_all
     have hyc:lR μ v.cells (a.eval y).cells.toList:=NI (show rep μ v (a.eval y) from Re) (λz e=>by rw[e] at hnt;cases hnt);have HF:(a.eval y).cells.toList.length=n:=by rw[hyc.length];exact hvl
     have key:∀(xs:List (List AV)) (I:List Value) (i:Nat) (c:List AV),cT μ H xs I->xs[i]? =some c->l+n<=c.length->
       cT μ H (xs.set i (c.take l++v.cells++c.drop (l+n))) (I.take (i *H+l)++(a.eval y).cells.toList++I.drop (i *H+l+n))/\i *H+l+n<=I.length:=by
      intro xs;induction xs with
      |nil=>simp
      |cons x xs ih=>intro I i c hrc hx hle;obtain⟨D,ws,rfl,k1,k2,k3⟩:=hrc;cases i with
       |zero=>
        simp at hx;subst hx;have hxl:=k1.length;refine⟨?_,aH⟩;refine⟨D.take l++(a.eval y).cells.toList++D.drop (l+n),ws,?_,((k1.take l).append hyc).append (k1.drop (l+n)),?_,k3⟩
        .grind
        grind
       |succ i=>
        simp at hx;obtain⟨r1,r2⟩:=ih ws i c k3 hx hle;refine⟨?_,by grind⟩;refine⟨D,ws.take (i *H+l)++(a.eval y).cells.toList++ws.drop (i *H+l+n),?_,k1,k2,r1⟩
        rw[show(i+1) *H+l=D.length+(i *H+l) from by grind,Hi,
         show D.length+(i *H+l)+n=D.length+(i *H+l+n) from by omega,A6]
        simp
     obtain⟨abT,hle'⟩:=key xs I i c hrc hg hle;have hvl':=dc hrc;have hcl:xs.length *H<=F.size:=by rw[hcs];exact jV _ hnc
     have hsc:=wN P g (i *H+l) e _ 0 _ w B af hyc.2;simp only[HF] at hsc
     refine fin _ _ S (by
      have :=by simpa using HF
      simp[storeVar,jB,lz hsz,kV,this,ne_eq,rf,eP]
      omega) ?_
     rw[<-h];refine hR.write R (by rw[hl];exact ia.2 rfl) (λk hk=>wO w g k _ hk) rfl rfl rfl ai ?_;refine⟨_,⟨?_, .inr ⟨g,_,_,?_,cW _,Bc w g _ _ e _ B,?_,hcm,?_,?_⟩⟩,abT,λg' hg'=>hm _ hg'⟩
     .grind
     .simp_all
     .simp_all
     .grind
     .rw[show I.take _=F.toList.take (i *H+l) from by grind,
       show I.drop _=(F.toList.drop _).take _ from by rw[<-Nd,G8]]
      rw[List.take_append,jY (by grind)];congr 2;grind
    grind
   grind
  grind
 grind
def Zo {o:Oper} {t:TypeId} {x y:Operand} {z B:SV} (q:Rel N w0 μ0 L μ loc st a w) (l:o.dst=none) (F:o.op= .store t x y)
  (G:bD P 0 st x=some z) (H:bD P t st y=some B) (h:storeAt P t st z B=some st') (D:mE N w0 μ0 L st' K):o.uh P a w K Q:=
 J4 q l F (bf q G) (bf q H) h D
def RS {o:Oper} {t:TypeId} {x y:Operand} {id H j I n:Nat} (B:Rel N w0 μ0 L μ loc st a w) (F:o.dst=none) (ho:o.op= .store t x y) (hx:bD P 0 st x=some (.ptr id H)) (hy:bD P t st y=some (.sub j I 0 n))
  (h:Xa P st t id H j I n=some st') (hK:mE N w0 μ0 L st' K):o.uh P a w K Q:=by
 unfold Xa at h;split at h
 .rename_i e sz' xs G;cases S:(Nat.beq I sz'&&gO j&& !(Nat.beq id j)) with
  |false=>simp_all
  |true=>
  rw[S] at h;simp at h;simp only[aS] at S;obtain⟨⟨b1,b2⟩,b3⟩:=S;have c1:=beq_iff.1 b1;subst c1;have hne:id≠j:=λe=>by simp_all
  have hxa:=bf B hx;obtain⟨A,m,c,A',c',hl,_,hnm,_,hu,h0,_⟩:=bf B hy;obtain⟨rfl,rfl⟩:=h0 rfl;have U:j<10000\/20000<=j:=by simp[gO,gK] at b2;rcases b2 with hm|hm<;>simp_all
  obtain⟨us,l,hrc,hm⟩:=B.obs j _ G;have hml:m=xs.length:=by rcases l.2 with⟨e1,e2⟩|⟨q,O,R,e1,_⟩<;>simp_all
  have D:∀q,lI (.slice A' n c') q↔lI (loc j) q:=λq=>by rw[hl,ia,ia];cases A'<;>rfl
  have h2:=B.new (o:= .row e I (xs.take n)) U ?_ (λk ok hk V q hq=>B.apart j k _ _ G hk (c9 V) q ((D q).1 hq))
  .refine J4 h2 F ho ?_ ?_ h hK
   .obtain⟨b,k1,k2⟩:=hxa;exact⟨b,by simp_all[cQ],k2⟩
   .show a.eval y=fS _;rw[cI,hu];rfl
  .have z:=lu hrc n;refine⟨_,⟨by rw[dc z],?_⟩,z,λq hq=> ?_⟩
   .rw[cI];rcases l.2 with⟨e1,e2⟩|⟨q,O,R,e1,k1,k2,k3,k4,k5,k6⟩
    .simp_all
    grind[Nat.mul_le_mul_right]
   simp_all[cI]
 grind
def AJ (t ty e:TypeId) (i:TypeInfo) (B:P.underlying t=some (.slice e)) (z:P.info? e=some i) (v:Value) (n:Nat) (xs:List Value) (size:Nat) (l:w.ownsRow 0 e size v n xs) (c:Nat):
  (Builtin.append_ #[t,t] ty #[v, .slice none 0 c]).run P w= .ok v w:=by
 rcases l.2 with⟨rfl,rfl⟩|⟨g,D,F,rfl,_,_,q,_⟩
 .simp[Builtin.append_,bM B,sizeOf,typeInfo,z,Builtin.lenOf,Builtin.firstCells]
 .simp[Builtin.append_,bM B,sizeOf,typeInfo,z,Builtin.lenOf,Builtin.firstCells,q,storeCells]
def UZ {o:Oper} {x y:Operand} {t e:TypeId} {d F id:Nat} {sy:SV} {xs U:List (List AV)} {i:TypeInfo} (B:Rel N w0 μ0 L μ loc st a w) (hd:d<N) (AP:o.dst=some d)
  (ho:o.op= .call { callee:= .builtin .append,args:= #[x,y],argTypes:= #[t,t] }) (hs:isSlice P t=some (e,F)) (hx:bD P t st x=some (.row id)) (hy:bD P t st y=some sy)
  (I:st.ob id=some (.row e F xs)) (hel:elems st sy=some (F,U)) (hi:P.info? e=some i) (hpos:0<F) (hby:(xs.length+U.length) *i.bytes<=140737488355328) (hlen:xs.length+U.length<=4611686018427387904)
  (hz:i.zero.map (λz=>z.cells.size)=some F) (hid:id<10000\/20000<=id) (hK:mE N w0 μ0 L ((st.new id (.row e F (xs++U))).set (some d) (.row id)) K):o.uh P a w K Q:=by
 obtain⟨hu,inf,G,hsz⟩:=fZ hs;rw[G] at hi;injection hi with hi;subst hi;obtain⟨z,Un,hzs⟩:∃z,inf.zero=some z/\z.cells.size=F:=by simp_all
 have hxv:a.eval x=loc id:=(bf B hx:a.eval x=fS (loc id)).trans (jj (B.obs id _ I));have Re:=bf B hy;obtain⟨vs,O,hrc,hm⟩:=B.obs id _ I;obtain⟨A,c,Sw,us,AQ,hsrc⟩:=tM B hel Re;have HF:=dc AQ;obtain⟨R,w',hrun,EY,l,D⟩:∃R w',(Builtin.append_ #[t,t] o.type #[loc id, .slice A U.length c]).run P w= .ok R w'/\w'.ownsRow 0 e F R (xs.length+U.length) (vs++us)/\w.grownBy w' (loc id).ownBlock/\
   (R.ownBlock=(loc id).ownBlock\/R.ownBlock=some w.heap.size):=by
  cases A with
  |none=>
   have h0:U.length=0:=by
    rcases hsrc with h0|⟨ad,h,_⟩
    .exact h0
    .cases h
   have hu0:us=[]:=kW (by simp_all);subst hu0;rw[h0];exact⟨loc id,w,AJ t o.type e inf hu G (loc id) _ vs F O c,by simp_all,⟨rfl,rfl,rfl,aU _,λ_ _ _=>rfl⟩, .inl rfl⟩
  |some ad=>
   have V:∀j u,us[j]? =some u->w.cell? (ad.add j)=some u:=by rcases hsrc with h0|⟨ad',h,hc⟩<;>simp_all
   obtain⟨R,w',h1,h2,h3,_,h5⟩:=run_append_own_at (P:=P) w 0 t o.type e inf z F inf.bytes hu G Un hsz rfl hzs hpos (loc id) xs.length vs O ad U.length c us HF V (kU AQ) (by simp only[maxLen];omega) hby (cW _);grind
 have hbo:∀v:Value,(∃A n c,v= .slice A n c)->v.ownBlock=bH v:=by rintro v ⟨A,n,c,rfl⟩;cases A<;>rfl
 have Ss:∃A n c,loc id= .slice A n c:=by rcases O.2 with⟨e1,_⟩|⟨g,cap,cur,e1,_⟩<;>simp_all
 have hv':∃A n c,R= .slice A n c:=by rcases EY.2 with⟨e1,_⟩|⟨g,cap,cur,e1,_⟩<;>simp_all
 rw[hbo _ Ss] at l D;rw[hbo _ hv'] at D;have hok:=B.obs id _ I;refine gB (v:=R) (w':=w') (by simp_all[execOp,resolve,invoke,builtin]) ?_;rw[AP]
 have h1:=(B.drop id).world (w':=w') (Mu.le.refl _) (λ_ _ _ h=> .inl h) (λb j v h=>by
   have hc:=B.xZ b j v h;have hlt:=sF hc;have H:some b≠bH (loc id):=λe=>by have:=(hok.block b (.inl e.symm)).2.2 j;simp_all
   rw[jx (l.block b hlt H)];omega) (λk ok hk b q=>by
   by_cases e':id=k
   .simp_all[cZ]
   .simp only[bR _ _ e'] at hk;obtain⟨_,hlt,C8⟩:=(B.obs k ok hk).block b q;have H:some b≠bH (loc id):=λe=>B.apart id k _ ok I hk e' b (.inl e.symm) q
    exact⟨l.block b hlt H,C8⟩) (λb q hl=>by
   refine l.block b (e8 q B.grown) (λe=> ?_);rcases(hok.block b (.inl e.symm)).1 with h|h|⟨v,hv,h⟩
   .omega
   .exact hl h.cL
   .exact hl ⟨id,v,hv,h⟩) l.os l.tape l.output l.size (λ_=>GI hrun)
 have h2:=h1.new (val:=R) (o:= .row e _ _) hid (by
   refine⟨_,?_,oq hrc AQ,λg S=> ?_⟩
   .simp_all[cI]
   .rw[cI] at S;replace S:bH R=some g:=by obtain⟨A',n',c',rfl⟩:=hv';exact ia.1 S
    rcases D with q|q
    .rw[S] at q;have:=hok.block g (.inl q.symm);simp_all
    .rw[S] at q;injection q with q;subst q
     exact⟨.inl B.grown,uq B _ (aU _)⟩) (λj oj hj H g S=>by
   have hj':st.ob j=some oj:=by
    by_cases e':id=j
    .omega
    .simp_all[bR]
   replace S:bH R=some g:=by obtain⟨A',n',c',rfl⟩:=hv';exact ia.1 S
   rcases D with q|q
   .rw[S] at q;exact B.apart _ j _ _ I hj' (λe=>H e.symm) g (.inl q.symm)
   .rw[S] at q;injection q with q;intro hbj;have:=((B.obs j _ hj').block _ hbj).2.1
    omega)
 have heq:St.new { st with ob:=put st.ob id none } id (.row e F (xs++U))=St.new st id (.row e F (xs++U)):=by
  simp[St.new,St.dw];congr 1;funext k;by_cases e':id=k
  .subst e';simp[cZ]
  .simp[bR _ _ e']
 rw[heq] at h2;exact hK _ _ _ _ (h2.set (λi hi=>by simp_all) (Lh (by obtain⟨A',n',c',rfl⟩:=hv';rfl)))
def IA (w:World) (t ty e:TypeId) (i:TypeInfo) (z:Value) (size bytes:Nat) (ht:P.underlying t=some (.slice e)) (hi:P.info? e=some i) (hz:i.zero=some z)
  (G:i.size=size) (U:i.bytes=bytes) (hzs:z.cells.size=size) (A:Option Addr) (n I:Nat) (xs:List Value) (q:w.ownsRow 0 e size (.slice A n I) n xs)
  (a:Addr) (m c:Nat) (l:List Value) (O:l.length=m *size) (B:∀j u,l[j]? =some u->w.cell? (a.add j)=some u) (h63:n+m<=maxLen) (D:(n+m) *bytes<=140737488355328) (hm:0<m):
  ∃S w',(Builtin.append_ #[t,t] ty #[.slice A n n, .slice (some a) m c]).run P w= .ok S w'/\w'.ownsRow 0 e size S (n+m) (xs++l)/\w.grownBy w' (Value.ownBlock (.slice A n I))/\
   (S.ownBlock=Value.ownBlock (.slice A n I)\/S.ownBlock=some w.heap.size):=by
 subst G U;have H:(xs++l).length=(n+m) *i.size:=by rw[cF,q.1,O,jA]
 have hge:=grownCap_ge w (n+m) n e;have V :=grownCap_le_maxLen w _ n e h63;have R:n+m<=9223372036854775807:=by simp[maxLen] at h63;omega
 have key:∀row,(w.drew.alloc (.cells (xs.toArray++l.toArray++Builtin.zeroCells z.cells (grownCap w (n+m) n e-(n+m))) e)).ownsRow 0 e _ _ _ _/\
   w.grownBy (w.drew.alloc (.cells (xs.toArray++l.toArray++Builtin.zeroCells z.cells (grownCap w (n+m) n e-(n+m))) e)) row:=λrow=>by
  refine⟨⟨H, .inr ⟨_,_,_,rfl,cW _,q8 _ _,hge,V,?_,?_⟩⟩,⟨rfl,rfl,rfl,by simp,λk hk _=>heap_alloc_old _ _ k hk⟩⟩
  .simp[Array.size_append,pR,size_zeroCells,hzs,q.1,O,<-jA];simp_all
  grind
 rcases q.2 with⟨e1,e2⟩|⟨g,cap,cur,e1,_⟩
 .have hx:xs=[]:=kW (by simp_all);injection e1 with e1 _ _;subst hx e2 e1;have hr:=run_append_nil w t ty e i z ht hi hz a m c _ O B af af (by grind);have F:=key (Value.ownBlock (.slice none 0 I));simp at F⊢;exact⟨_,_,hr,F.1,F.2, .inr rfl⟩
 .injection e1 with e1 _ _;subst e1;have hr:=run_append_grow w t ty e i z ht hi hz _ n n _ q.1 (q.cells rfl) a m c _ O B af af (growslice_fits af D);exact⟨_,_,hr,(key none).1,(key _).2, .inr rfl⟩
def RV {o:Oper} {x y:Operand} {t e:TypeId} {d I id:Nat} {sy:SV} {xs H:List (List AV)} {i:TypeInfo} (D:Rel N w0 μ0 L μ loc st a w) (hd:d<N) (AP:o.dst=some d)
  (ho:o.op= .call { callee:= .builtin .append,args:= #[x,y],argTypes:= #[t,t] }) (hs:isSlice P t=some (e,I)) (hx:bD P t st x=some (.aq id .full)) (hy:bD P t st y=some sy)
  (U:st.ob id=some (.row e I xs)) (hel:elems st sy=some (I,H)) (hi:P.info? e=some i) (hpos:0<I) (hby:(xs.length+H.length) *i.bytes<=140737488355328) (hlen:xs.length+H.length<=4611686018427387904)
  (hz:i.zero.map (λz=>z.cells.size)=some I) (hid:id<10000\/20000<=id) (B:H.isEmpty=false) (hK:mE N w0 μ0 L ((st.new id (.row e I (xs++H))).set (some d) (.row id)) K):o.uh P a w K Q:=by
 obtain⟨hu,inf,hinf,hsz⟩:=fZ hs;rw[hinf] at hi;injection hi with hi;subst hi;obtain⟨z,Un,hzs⟩:∃z,inf.zero=some z/\z.cells.size=I:=by simp_all
 have Re:=bf D hy;obtain⟨vs,G,hrc,hm⟩:=D.obs id _ U;have hpos2:0<H.length:=by cases H with
  |nil=>simp at B
  |cons y H=>simp
 obtain⟨A0,hxv⟩:∃A0,a.eval x= .slice A0 xs.length xs.length/\∃c,loc id= .slice A0 xs.length c:=by
  obtain⟨A0,n,c,e1,e2⟩:=bf D hx;have hn:n=xs.length:=by rcases G.2 with⟨e3,e4⟩|⟨g,cap,cur,e3,_⟩<;>simp_all
  simp_all
 obtain⟨hxv,c0,hl0⟩:=hxv;obtain⟨A,c,Sw,us,AQ,hsrc⟩:=tM D hel Re;have HF:=dc AQ;obtain⟨O,w',hrun,EY,l,F⟩:∃O w',(Builtin.append_ #[t,t] o.type #[.slice A0 xs.length xs.length, .slice A H.length c]).run P w= .ok O w'/\w'.ownsRow 0 e I O (xs.length+H.length) (vs++us)/\w.grownBy w' (loc id).ownBlock/\
   (O.ownBlock=(loc id).ownBlock\/O.ownBlock=some w.heap.size):=by
  cases A with
  |none=>simp_all
  |some ad=>
   have S:∀j u,us[j]? =some u->w.cell? (ad.add j)=some u:=by
    rcases hsrc with h0|⟨ad',h,hc⟩
    .omega
    .simp_all
   rw[hl0] at G⊢;obtain⟨O,w',h1,h2,h3,h5⟩:=IA (P:=P) w t o.type e inf z I inf.bytes hu hinf Un hsz rfl hzs A0 xs.length c0 vs G ad H.length c us HF S (by simp only[maxLen];omega) hby hpos2;grind
 have hbo:∀v:Value,(∃A n c,v= .slice A n c)->v.ownBlock=bH v:=by rintro v ⟨A,n,c,rfl⟩;cases A<;>rfl
 have Ss:∃A n c,loc id= .slice A n c:=by rcases G.2 with⟨e1,_⟩|⟨g,cap,cur,e1,_⟩<;>simp_all
 have V:∃A n c,O= .slice A n c:=by
  rcases EY.2 with⟨e1,_⟩|⟨g,cap,cur,e1,_⟩
  .omega
  .simp_all
 rw[hbo _ Ss] at l F;rw[hbo _ V] at F;have hok:=D.obs id _ U;refine gB (v:=O) (w':=w') (by simp_all[execOp,resolve,invoke,builtin]) ?_;rw[AP]
 have h1:=(D.drop id).world (w':=w') (Mu.le.refl _) (λ_ _ _ h=> .inl h) (λb j v h=>by
   have hc:=D.xZ b j v h;have hlt:=sF hc;have B:some b≠bH (loc id):=λe=>by have:=(hok.block b (.inl e.symm)).2.2 j;simp_all
   rw[jx (l.block b hlt B)];omega) (λk ok hk b q=>by
   by_cases e':id=k
   .simp_all[cZ]
   .simp only[bR _ _ e'] at hk;obtain⟨_,hlt,C8⟩:=(D.obs k ok hk).block b q;have B:some b≠bH (loc id):=λe=>D.apart id k _ ok U hk e' b (.inl e.symm) q
    exact⟨l.block b hlt B,C8⟩) (λb q hl=>by
   refine l.block b (e8 q D.grown) (λe=> ?_);rcases(hok.block b (.inl e.symm)).1 with h|h|⟨v,hv,h⟩
   .omega
   .exact hl h.cL
   .exact hl ⟨id,v,hv,h⟩) l.os l.tape l.output l.size (λ_=>GI hrun)
 have h2:=h1.new (val:=O) (o:= .row e _ _) hid (by
   refine⟨_,?_,oq hrc AQ,λg R=> ?_⟩
   .simp_all[cI]
   .rw[cI] at R;replace R:bH O=some g:=by obtain⟨A',n',c',rfl⟩:=V;exact ia.1 R
    rcases F with q|q
    .rw[R] at q;have:=hok.block g (.inl q.symm);simp_all
    .rw[R] at q;injection q with q;subst q
     exact⟨.inl D.grown,uq D _ (aU _)⟩) (λj oj hj B g R=>by
   have hj':st.ob j=some oj:=by
    by_cases e':id=j
    .omega
    .simp_all[bR]
   replace R:bH O=some g:=by obtain⟨A',n',c',rfl⟩:=V;exact ia.1 R
   rcases F with q|q
   .rw[R] at q;exact D.apart _ j _ _ U hj' (λe=>B e.symm) g (.inl q.symm)
   .rw[R] at q;injection q with q;intro hbj;have:=((D.obs j _ hj').block _ hbj).2.1
    omega)
 have heq:St.new { st with ob:=put st.ob id none } id (.row e I (xs++H))=St.new st id (.row e I (xs++H)):=by
  simp[St.new,St.dw];congr 1;funext k;by_cases e':id=k
  .subst e';simp[cZ]
  .simp[bR _ _ e']
 rw[heq] at h2;exact hK _ _ _ _ (h2.set (λi hi=>by simp_all) (Lh (by obtain⟨A',n',c',rfl⟩:=V;rfl)))
def RW {o:Oper} {x y:Operand} {t e e2:TypeId} {d F id k s2:Nat} {sy:SV} {xs H:List (List AV)} {zs:List (Option (List (List AV)))} {i:TypeInfo} (G:Rel N w0 μ0 L μ loc st a w) (hd:d<N) (AP:o.dst=some d)
  (ho:o.op= .call { callee:= .builtin .append,args:= #[x,y],argTypes:= #[t,t] }) (hs:isSlice P t=some (e,F)) (hx:bD P t st x=some (.row id)) (hy:bD P t st y=some sy)
  (V:st.ob id=some (.rn e F k e2 s2 xs zs)) (hel:elems st sy=some (F,H)) (S:P.info? e=some i) (hpos:0<F) (hby:(xs.length+H.length) *i.bytes<=140737488355328) (hlen:xs.length+H.length<=4611686018427387904)
  (hz:i.zero.map (λz=>z.cells.size)=some F) (hid:id<10000\/20000<=id) (hall:H.all (qI k)=true) (hK:mE N w0 μ0 L ((st.new id (.rn e F k e2 s2 (xs++H.map λc=>c.set k .hole) (zs++H.map λ_=>some []))).set (some d) (.row id)) K):o.uh P a w K Q:=by
 obtain⟨D,inf,U,hsz⟩:=fZ hs;rw[U] at S;injection S with S;subst S;obtain⟨z,Un,hzs⟩:∃z,inf.zero=some z/\z.cells.size=F:=by cases hzz:inf.zero with
  |none=>simp[hzz] at hz
  |some z=>simp[hzz] at hz;exact⟨z,rfl,hz⟩
 obtain⟨m,vu,vs,hl,hm,I,hrc,hk,h2,h3,h4,h5,h6,h7⟩:=G.obs id _ V;have hxv:a.eval x=m:=(bf G hx:a.eval x=fS (loc id)).trans (by rw[hl];rfl);have Re:=bf G hy;obtain⟨A,c,Sw,us,AQ,hsrc⟩:=tM G hel Re;have HF:=dc AQ;obtain⟨hus',Kk⟩:=wA AQ hall hk.1;obtain⟨v',w',hrun,EY,l,hblk⟩:∃v' w',(Builtin.append_ #[t,t] o.type #[m, .slice A H.length c]).run P w= .ok v' w'/\w'.ownsRow 0 e F v' (xs.length+H.length) (vs++us)/\w.grownBy w' m.ownBlock/\
   (v'.ownBlock=m.ownBlock\/v'.ownBlock=some w.heap.size):=by
  cases A with
  |none=>
   have h0:H.length=0:=by
    rcases hsrc with h0|⟨ad,h,_⟩
    .exact h0
    .cases h
   have hu0:us=[]:=kW (by rw[HF,h0];simp);subst hu0;rw[h0];exact⟨m,w,AJ t o.type e inf D U m _ vs F I c,by simpa using I,⟨rfl,rfl,rfl,aU _,λ_ _ _=>rfl⟩, .inl rfl⟩
  |some ad=>
   have hcells:∀j u,us[j]? =some u->w.cell? (ad.add j)=some u:=by
    rcases hsrc with h0|⟨ad',h,R⟩
    .have hu0:us=[]:=kW (by rw[HF,h0];simp);subst hu0;intro j u D;simp at D
    .injection h with h;subst h;exact R
   obtain⟨v',w',h1,h2,h3,_,h5⟩:=run_append_own_at (P:=P) w 0 t o.type e inf z F inf.bytes D U Un hsz rfl hzs hpos m xs.length vs I ad H.length c us HF hcells (kU AQ) (by simp only[maxLen];omega) hby (cW _);exact⟨v',w',h1,h2,h3,h5⟩
 have hbo:∀v:Value,(∃A n c,v= .slice A n c)->v.ownBlock=bH v:=by rintro v ⟨A,n,c,rfl⟩;cases A<;>rfl
 have hsl:∀{w:World} {v:Value} {n:Nat} {cs:List Value} {e s:Nat},w.ownsRow 0 e s v n cs->∃A n c,v= .slice A n c:=λho=>by rcases ho.2 with⟨e1,_⟩|⟨g,cap,cur,e1,_⟩<;>exact⟨_,_,_,e1⟩
 have Nc:=hsl I;have hv':=hsl EY;rw[hbo _ Nc] at l hblk;rw[hbo _ hv'] at hblk;have hok:=G.obs id _ V;have hinm:∀g,bH m=some g->lI (loc id) g:=λg B=>by rw[hl];exact kA.2 (.inl B)
 have hinu:∀u∈vu,∀g,bH u=some g->lI (loc id) g:=λu D g B=>by rw[hl];exact kA.2 (.inr ⟨u,D,B⟩)
 refine gB (v:=v') (w':=w') (by unfold execOp;rw[ho];simp[resolve,invoke,builtin,hxv,Sw,hrun]) ?_;rw[AP]
 have h1:=(G.drop id).world (w':=w') (Mu.le.refl _) (λ_ _ _ h=> .inl h) (λb j v h=>by
   have R:=G.xZ b j v h;have hlt:=sF R;have O:some b≠bH m:=λe=>by have:=(hm b e.symm).2 j;rw[this] at h;cases h
   rw[jx (l.block b hlt O)];omega) (λk ok hk b hb=>by
   by_cases e':id=k
   .subst e';simp[cZ] at hk
   .simp only[bR _ _ e'] at hk;obtain⟨_,hlt,C8⟩:=(G.obs k ok hk).block b hb;have O:some b≠bH m:=λe=>G.apart id k _ ok V hk e' b (hinm b e.symm) hb
    exact⟨l.block b hlt O,C8⟩) (λb hb hl'=>by
   refine l.block b (e8 hb G.grown) (λe=> ?_);rcases(hm b e.symm).1 with h|h|⟨v,hv,h⟩
   .omega
   .exact hl' h.cL
   .exact hl' ⟨id,v,hv,h⟩) l.os l.tape l.output l.size (λ_=>GI hrun)
 have hvl:=dc hrc;have mem:∀u∈vu++H.map (λ_=>(.slice none 0 0:Value)),u∈vu\/u= .slice none 0 0:=λu D=>by
  rcases bu.1 D with D|D
  .exact .inl D
  .obtain⟨c,_,rfl⟩:=aD.1 D;exact .inr rfl
 have hvg:∀g,bH v'=some g->(bH m=some g)\/g=w.heap.size:=λg B=>by grind
 have h2':=h1.new (id:=id) (val:= .tuple (v'::(vu++H.map λ_=>(.slice none 0 0:Value))).toArray) (o:= .rn e F k e2 s2 (xs++H.map λc=>c.set k .hole) (zs++H.map λ_=>some [])) hid (by
   refine⟨v',_,vs++us,cI _ _ _,λg B=> ?_,by rw[cF,bz];exact EY,oq hrc hus',⟨hk.1,λc R=> ?_⟩,by simp[h2],by simp[h3],λi zs' S=> ?_,λi S=> ?_,λu D g B hgv=> ?_,λi j u v D hv hij g B hg'=> ?_⟩
   .rcases hvg g B with hb|rfl
    .exact⟨(hm g hb).1,(hm g hb).2⟩
    .exact⟨.inl G.grown,uq G _ (aU _)⟩
   .rcases bu.1 R with R|R
    .exact hk.2 c R
    .obtain⟨c',hc',rfl⟩:=aD.1 R;have:=zV (cH.1 hall c' hc');rw[kJ (bQ.1 this).1]
   .by_cases hil:i<zs.length
    .rw[fL hil] at S;obtain⟨u,cells,k1,k2,k3,k4,k5⟩:=h4 i zs' S;refine⟨u,cells,by rw[fL af];exact k1,by rw[fL (bQ.1 k2).1];exact k2,mo k3 (λg B=> ?_),k4,k5⟩;exact l.block g (tu k3 B) (λe=>h6 u (aZ k1) g B e.symm)
    .rw[fK af] at S;simp only[dN,cB] at S;obtain⟨c,R,e1⟩:=S;simp only[aW] at e1;subst e1;have hcl:=(bQ.1 R).1;refine⟨.slice none 0 0,[],by rw[fK af];simp[h2,R],?_,⟨ai, .inl ⟨rfl,rfl⟩⟩,rfl,λg B=>by simp[bH] at B⟩;have e3:i *F+k-vs.length=(i-zs.length) *F+k:=by
      rw[hvl,h3,Nat.sub_mul]
      have:zs.length *F<=i *F:=jV _ af
      omega
     rw[fK (by rw[hvl,h3];have:zs.length *F<=i *F:=jV _ (by omega);omega),e3];exact Kk _ hcl
   .grind
   .rcases mem u D with D|rfl
    .rcases hvg g hgv with hb|rfl
     .grind
     .have:=(hok.block _ (hinu u D _ B)).2.1;omega
    .simp[bH] at B
   .have split:∀q z,(vu++H.map λ_=>(.slice none 0 0))[q]? =some z->∀g,bH z=some g->vu[q]? =some z:=λq z hz g B=>by
     by_cases hq:q<vu.length
     .rwa[fL hq] at hz
     .rw[fK af] at hz;simp only[dN,cB] at hz;obtain⟨c,_,e1⟩:=hz;subst e1;simp[bH] at B
    exact h7 i j u v (split i u D g B) (split j v hv g hg') hij g B hg') (λj oj hj O g B=>by
   have hj':st.ob j=some oj:=by
    by_cases e':id=j
    .omega
    .simpa only[bR _ _ e'] using hj
   rcases kA.1 B with B|⟨u,D,B⟩
   .rcases hvg g B with hb|rfl
    .exact G.apart _ j _ _ V hj' (λe=>O e.symm) g (hinm g hb)
    .intro hbj;have:=((G.obs j _ hj').block _ hbj).2.1;omega
   .rcases mem u D with D|rfl
    .exact G.apart _ j _ _ V hj' (λe=>O e.symm) g (hinu u D g B)
    .simp[bH] at B)
 have heq:∀o',St.new { st with ob:=put st.ob id none } id o'=St.new st id _:=λo'=>by
  simp[St.new,St.dw];congr 1;funext k;by_cases e':id=k
  .subst e';simp[cZ]
  simp_all[bR]
 rw[heq] at h2';exact hK _ _ _ _ (h2'.set (λi S=>by simp_all) (rowS' (by rfl)))
def HI {t k e:TypeId} {r:Option Operand} (z:Rel N w0 μ0 L μ loc st a w) (F:P.underlying t=some (.map k e)) (B:vD P st r=true):(Instr.makeMap t (r.map a.eval)).run P w= .ok (.map (some w.heap.size)) (w.alloc (.map #[] 0)):=by
 have l:(Instr.makeMap t (r.map a.eval)).run P w= .ok (.map (some w.heap.size)) (w.alloc (.map #[] 0)):=by cases r with
  |none=>rfl
  |some x=>simp[vD] at B;cases D:(bD P 0 st x).bind iY with
   |none=>simp_all
   |some y=>cases y with
    |int q n=>have:=fP z D;simp_all[rep,Instr.makeMap,bM,asInt,asIntOf]
    |_=>simp_all
 omega
def RY {o:Oper} {t k e:TypeId} {r:Option Operand} {d:Nat} (q:Rel N w0 μ0 L μ loc st a w) (D:d<N) (l:o.dst=some d) (I:o.op= .makeMap t r) (H:P.underlying t=some (.map k e))
  (G:vD P st r=true) (B:mE N w0 μ0 L ((st.new d (.mp k e [] [])).set (some d) (.row d)) K):o.uh P a w K Q:=by
 have z:=HI q H G;refine gB (v:= .map (some w.heap.size)) (w':=w.alloc (.map #[] 0)) (by simp_all[execOp]) ?_;rw[l];refine B _ _ _ _ (q.made D (λg F=>wZ.1 F) ?_ ?_)
 .refine⟨_, #[],0,cI _ _ _, .inl q.grown,(by show(w.heap.push _)[w.heap.size]? =_;simp),uq q _ (aU _),by rfl,by rfl,⟨ai,ai⟩⟩
 .exact Lh rfl
def VM {key x:AV} {z B:Value} (h:w5 key x=some true) (l:rep μ key z) (q:rep μ x B):z=B/\key=x:=by
 unfold w5 at h;split at h
 .rw[rep] at l q;simp_all
 .split at h
  .rw[rep] at l q;simp_all
  grind
 .rw[rep] at l q;simp_all
 grind
def E4 {q:Value} {key:AV} (B:rep μ key q) {z:TypeId} (l:kg P z key=true) (w:World):(Instr.keyThatStays q q).run P w= .ok q w:=by
 have D:∀n,Instr.sameBits n q q=true:=by
  unfold kg at l;split at l
  .simp_all[rep,Instr.sameBits,ad7]
  .simp_all[rep,Instr.sameBits]
  .simp_all[rep,Instr.sameBits]
  .cases l
 simp_all[Instr.keyThatStays]
theorem K8 {xs:List AV} {l:List Value} (h:cM μ xs l) {i:Nat} {x:AV} {v:Value} (z:rep μ x v):cM μ (xs.set i x) (l.set i v):=by induction xs generalizing l i with
 |nil=>simp_all[cM]
 |cons y xs D=>obtain⟨u,F,rfl,B,q⟩:=h;cases i with
  |zero=>simpa using cE z q
  |succ i=>simp_all[cE]
def Dc {t kt et:TypeId} {b:Nat} {dM:Array MapEntry} {q:Nat} {key:AV} {kv x:Value} {ks:List AV} {r:Option Nat} (hu:P.underlying t=some (.map kt et)) (hh:w.heap[b]? =some (.map dM q)) (F:rep μ key kv) (H:kg P kt key=true)
  (h1:cM μ ks (dM.toList.map (·.key))) (hf:qD key ks=some r):
  ∃l B,(Instr.mapUpdate t (.map (some b)) kv x).run P w= .ok () { w with heap:=w.heap.setIfInBounds b (.map l B) }/\
   (r=none->cM μ (ks++[key]) (l.toList.map (·.key))/\l.toList.map (·.val)=dM.toList.map (·.val)++[x])/\
   (∀j,r=some j->cM μ ks (l.toList.map (·.key))/\l.toList.map (·.val)=(dM.toList.map (·.val)).set j x/\j<dM.size)/\(aay dM q->aay l B):=by
 have S:=pe F H h1 hf w;cases r with
 |none=>
  refine⟨dM.push { key:=kv,val:=x,born:=q },q+1,?_,λ_=>⟨?_,ai⟩,(λj e=>by cases e),λR=>⟨λy G=> ?_,?_⟩⟩
  .simp[Instr.mapUpdate,bM hu,gU hh,jk F H,S,setObj,Sem.run,hh]
  .simp_all[ox,cE,dA]
  .rw[Array.toList_push,bu] at G;rcases G with G|G
   .have:=R.1 y G;omega
   simp_all
  .rw[Array.toList_push,cn,iI];refine⟨R.2,by simp,λa ha b hb=> ?_⟩;obtain⟨y,G,rfl⟩:=aD.1 ha;simp at hb;have:=R.1 y G;omega
 |some j=>
  obtain⟨e,he,U,y,G,hyk⟩:=S;obtain⟨yv,V,hyr⟩:=s7 h1 G;have I :=by simpa using he
  have Sw :=by simp[I] at V;exact V.symm
  subst Sw;obtain⟨O,_⟩:=VM hyk F hyr;have D:(dM.modify j λe=>{ e with key:=kv,val:=x }).toList.map (·.born)=dM.toList.map (·.born):=by
   apply kZ;intro i;by_cases e1:j=i
   .simp_all
   .simp[e1]
  refine⟨_,q,?_,(λe=>by cases e),(λj' ej=> ?_),λR=>⟨λy G=> ?_,by rw[D];exact R.2⟩⟩
  rotate_right
  .have hm:y.born∈dM.toList.map (·.born):=by rw[<-D];exact aD.2 ⟨y,G,rfl⟩
   obtain⟨z,hz,e⟩:=aD.1 hm;rw[<-e];exact R.1 z hz
  .simp[Instr.mapUpdate,bM hu,gU hh,jk F H,U,I,<-O,E4 F H,setObj,Sem.run,hh]
  .injection ej with ej;subst ej;refine⟨?_,?_,(gx.1 I).1⟩
   .have:(dM.modify j λe=>{ e with key:=kv,val:=x }).toList.map (·.key)=dM.toList.map (·.key):=by
     apply kZ;intro i;by_cases e1:j=i
     .simp_all
     .simp[e1]
    simp_all
   .apply kZ;grind
def EJ {o:Oper} {t:TypeId} {m k x:Operand} (hR:Rel N w0 μ0 L μ loc st a w) (H:o.dst=none) (U:o.op= .mapUpdate t m k x\/o.op= .insert t m k x) (h:yo P st t m k x=some st')
  (hK:mE N w0 μ0 L st' K):o.uh P a w K Q:=by
 unfold yo at h;split at h
 .rename_i kt et hu;split at h
  .rename_i st1 B;obtain⟨F,z⟩:∃F,Rel N w0 μ0 L F loc st1 a w:=by
    unfold VO at B;split at B
    .grind
    .obtain⟨μ',_,h'⟩:=hR.cV B;grind
    simp_all
   split at h
   .rename_i id key v hm hk hx;split at h
    .rename_i k' e' ks vs I;cases hc:(kg P kt key&&v.HQ) with
     |false=>simp_all
     |true=>
      simp[hc] at h;simp at hc;split at h
      .rename_i ks' vs' R;injection h with h;subst h;obtain⟨b,dM,V,hl,O,hh,C8,h1,h2,hB⟩:=z.obs _ _ I;have Nc:a.eval m= .map (some b):=by
        have:=bf z hm;rw[this,hl];rfl
       have hkr:=fP z hk;have hxr:=fP z hx;have S:∃l q,(Instr.mapUpdate t (a.eval m) (a.eval k) (a.eval x)).run P w= .ok () { w with heap:=w.heap.setIfInBounds b (.map l q) }/\cM F ks' (l.toList.map (·.key))/\cM F vs' (l.toList.map (·.val))/\aay l q:=by unfold DQ at R;cases hf:qD key ks with
        |none=>simp_all
        |some r=>obtain⟨l,q,G,q1,q2,q3⟩:=Dc (x:=a.eval x) hu hh hkr hc.1 h1 hf;grind[ox,cE,dA,K8]
       obtain⟨l,q,G,r1,r2,r3⟩:=S;have hlt:=(gx.1 hh).1;have D:=z.write I (by rw[hl];exact wZ.2 rfl) (w':={ w with heap:=w.heap.setIfInBounds b (.map l q) }) (o':= .mp k' e' _ _) (λb' hb'=>by grind) rfl rfl rfl ai ⟨b,_,_,hl,O,by simp[hlt],C8,r1,r2,r3⟩
       have:((execOp a.eval o).run P w)= .ok .skip { w with heap:=w.heap.setIfInBounds b (.map l q) }:=by unfold execOp;rcases U with U|U<;>rw[U]<;>simp[G]
       exact F6 this (by rw[H];exact hK _ _ _ _ D)
      grind
    grind
   grind
  grind
 grind
def Fu {xs:List AV} {l:List Value} (h:cM μ xs l) (i:Nat):cM μ (xs.eraseIdx i) (l.eraseIdx i):=by induction xs generalizing l i with
 |nil=>simp_all[cM]
 |cons x xs B=>obtain⟨u,D,rfl,q,z⟩:=h;cases i with
  |zero=>assumption
  |succ i=>simp_all[cE]
def Nn {q B:Type} (f:q->B) (l:List q) (j:Nat):(l.eraseIdx j).map f=(l.map f).eraseIdx j:=by induction l generalizing j with
 |nil=>rfl
 |cons x l z=>cases j with
  |zero=>rfl
  |succ j=>simp[z]
theorem U0 {o:Oper} {c:Call} {t:TypeId} {ts:List TypeId} {m k:Operand} (hR:Rel N w0 μ0 L μ loc st a w) (O:o.dst=none) (ho:o.op= .call c) (hc:c.callee= .builtin .delete) (ha:c.args.toList=[m,k]) (ht:c.argTypes.toList=t::ts) (h:ym P st t m k=some st')
  (hK:mE N w0 μ0 L st' K):o.uh P a w K Q:=by
 obtain⟨callee,⟨args⟩,⟨I⟩⟩:=c;simp only at hc ha ht;subst hc;subst ha;subst ht;unfold ym at h;split at h
 .rename_i kt et hu;split at h
  .rename_i id key hm hk;split at h
   .rename_i k' e' ks vs U;cases B:kg P kt key with
    |false=>simp_all
    |true=>
     simp only[B,ak] at h;split at h
     .rename_i ks' vs' z;injection h with h;subst h;obtain⟨b,dM,q,hl,V,R,C8,h1,h2,hB⟩:=hR.obs id _ U;have S:a.eval m= .map (some b):=by
       have:=bf hR hm;simp only[fU] at this;rw[this,hl];rfl
      have H:=fP hR hk;have key1:∃l,(Builtin.delete_ (t::ts).toArray o.type #[a.eval m,a.eval k]).run P w= .ok (.tuple #[]) { w with heap:=w.heap.setIfInBounds b (.map l q) }/\cM μ ks' (l.toList.map (·.key))/\cM μ vs' (l.toList.map (·.val))/\aay l q:=by unfold mdel at z;cases hf:qD key ks with
       |none=>simp_all
       |some r=>have G:=pe H B h1 hf w;cases r with
        |none=>simp only[hf,aW,ck] at z;obtain⟨rfl,rfl⟩:=z;simp only[] at G;exact⟨dM,by simp[Builtin.delete_,S,bM hu,gU R,jk H B,G,setObj,Sem.run,R],h1,h2,hB⟩
        |some j=>
         simp[hf] at z;obtain⟨rfl,rfl⟩:=z;obtain⟨e,he,F,_⟩:=G;refine⟨dM.eraseIdxIfInBounds j,by simp[Builtin.delete_,S,bM hu,gU R,jk H B,F,setObj,Sem.run,R],?_,?_,⟨λy hy=>hB.1 y (by grind),by rw[Array.toList_eraseIdxIfInBounds];exact hB.2.sublist ((List.eraseIdx_sublist _ _).map _)⟩⟩
         .simp_all[Fu,Nn]
         simp_all[Fu,Nn]
      obtain⟨l,F,r1,r2,r3⟩:=key1;have hlt:=(gx.1 R).1;have D:=hR.write U (by rw[hl];exact wZ.2 rfl) (w':={ w with heap:=w.heap.setIfInBounds b (.map l q) }) (o':= .mp k' e' _ _) (λb' hb'=>by grind) rfl rfl rfl ai ⟨b,_,_,hl,V,by simp[hlt],C8,r1,r2,r3⟩
      refine gB (v:= .tuple #[]) (w':={ w with heap:=w.heap.setIfInBounds b (.map l q) }) (by
       unfold execOp;simp[resolve,invoke,builtin]
       simp_all) ?_
      rw[O];exact hK _ _ _ _ D
     grind
   grind
  grind
 grind
def Oy {o:Oper} {c:Call} {t:TypeId} {m:Operand} (H:Rel N w0 μ0 L μ loc st a w) (B:o.dst=none) (ho:o.op= .call c) (hc:c.callee= .builtin .clear) (V:c.args.toList=[m]) (ht:c.argTypes.toList=[t]) (h:E8 P st t m=some st')
  (hK:mE N w0 μ0 L st' K):o.uh P a w K Q:=by
 obtain⟨G,⟨args⟩,⟨z⟩⟩:=c;simp only at hc V ht;subst hc;subst V;subst ht;unfold E8 at h;split at h
 .rename_i kt et hu;split at h
  .rename_i id hm;split at h
   .rename_i k' e' ks vs D;injection h with h;subst h;obtain⟨b,dM,l,O,F,I,S,h1,h2,hB⟩:=H.obs id _ D;have U:a.eval m= .map (some b):=by
     have:=bf H hm;simp only[fU] at this;rw[this,O];rfl
    have R:=(gx.1 I).1;have hrun:(Builtin.clear_ #[t] o.type #[a.eval m]).run P w= .ok (.tuple #[]) { w with heap:=w.heap.setIfInBounds b (.map #[] l) }:=by simp[Builtin.clear_,U,bM hu,gU I,setObj,Sem.run,I]
    have q:=H.write D (by rw[O];exact wZ.2 rfl) (w':={ w with heap:=w.heap.setIfInBounds b (.map #[] l) }) (o':= .mp k' e' [] []) (λb' hb'=>by grind) rfl rfl rfl ai ⟨b, #[],l,O,F,by simp[R],S,dA,dA,⟨λx hx=>by simp at hx,ai⟩⟩
    refine gB (v:= .tuple #[]) (w':={ w with heap:=w.heap.setIfInBounds b (.map #[] l) }) (by
     unfold execOp;simp[resolve,invoke,builtin]
     simp_all) ?_
    rw[B];exact hK _ _ _ _ q
   .cases h
  .cases h
 .cases h
def zY {id:Nat} {val:Value} {I:Array Value} (q:loc id= .tuple I) (l:fS val=fS (loc id)):∀{D:List oE} {B:List Value},kT μ loc D B->kT μ (qG loc id val) D B
 |[],B,h=>h
 |c::D,B,⟨u,_,e,z,F⟩=>by refine⟨u,_,e,?_,zY q l F⟩;cases c with
  |v a=>exact z
  |p j=>
   obtain⟨b,O,H⟩:=z;have G:j≠id:=λe=>by simp_all
   exact⟨b,by simp_all[cQ],H⟩
  |r j=>
   show u=fS _;by_cases e:j=id
   .subst e;rw[cI,l];exact z
   .rw[cQ _ _ e];exact z
theorem NG {id:Nat} {val:Value} {us:Array Value} (B:loc id= .tuple us) (l:fS val=fS (loc id)) {s:SV} {v:Value} (z:(∀q u,yD q (loc id) u->yD q val u)\/s.mentions (id+40000)=false) (k:fU μ loc s v):fU μ (qG loc id val) s v:=by induction s generalizing v with
 |undef=>exact k
 |any=>exact k
 |pv y=>exact k
 |cp cs=>exact k
 |ptr j R=>
  obtain⟨b,G,F⟩:=k;have I:j≠id:=λe=>by simp_all
  exact⟨b,by simp_all[cQ],F⟩
 |row j=>
  show v=fS _;by_cases e:j=id
  .subst e;rw[cI,l];exact k
  .rw[cQ _ _ e];exact k
 |rp j sz i R=>obtain⟨g,n,c,G,F⟩:=k;refine⟨g,n,c,?_,F⟩;grind[cI,cQ]
 |sub j sz lo hi=>
  obtain⟨A,n,c,U,c',G,F⟩:=k;have I:j≠id:=λe=>by simp_all
  exact⟨A,n,c,U,c',by simp_all[cQ],F⟩
 |cl f D=>obtain⟨S,e,H⟩:=k;exact⟨S,e,zY B l H⟩
 |ag D=>obtain⟨S,e,H,G⟩:=k;exact⟨S,e,zY B l H,G⟩
 |aq j q=>
  show yD q _ v;by_cases e:j=id
  .subst e;rw[cI];rcases z with z|z
   .exact z q v k
   simp_all[SV.mentions]
  .rw[cQ _ _ e];exact k
 |two s t V O=>obtain⟨x,y,e,k,k2⟩:=k;exact⟨x,y,e,V (z.imp (λh=>h) λh=>(jX.1 h).1) k,O (z.imp (λh=>h) λh=>(jX.1 h).2) k2⟩
def La {id:Nat} {val:Value} {O:Array Value} (z:loc id= .tuple O) (l:fS val=fS (loc id)):∀{D:List SV} {F:List Value},((∀q u,yD q (loc id) u->yD q val u)\/∀c∈D,c.mentions (id+40000)=false)->ig μ loc D F->ig μ (qG loc id val) D F
 |[],F,_,h=>h
 |c::D,F,B,⟨u,_,e,G,H⟩=>⟨u,_,e,NG z l (B.imp (λh=>h) λh=>h c ai) G,La z l (B.imp (λh=>h) λh c I=>h c (by simp[I])) H⟩
def noAt (id:Nat):Ob->Prop
 | .box _ cells=>∀c∈cells,c.mentions (id+40000)=false
 |_=>True
def ZW {V:Nat} {i id:Nat} {val:Value} {D:Array Value} (H:loc id= .tuple D) (B:fS val=fS (loc id)) {o:Ob} (O:(∀q u,yD q (loc id) u->yD q val u)\/noAt id o) (h:nv V L μ loc w i o) (hne:i≠id):nv V L μ (qG loc id val) w i o:=by cases o with
 |box t cells=>obtain⟨b,F,G,ho,hh,R,hs,I⟩:=h;exact⟨b,F,by simp_all[cQ],ho,hh,R,La H B O hs,I⟩
 |row e sz xs=>obtain⟨F,U,S,R⟩:=h;refine⟨F,by simp_all[cQ],S,λg hg=>R g (by simp_all[cQ])⟩
 |mp k e ks es=>obtain⟨b,dM,z,G,l⟩:=h;exact⟨b,_,_,by simp_all[cQ],l⟩
 |mr k e sz ks F=>obtain⟨b,dM,z,D,G,l⟩:=h;exact⟨b,_,_,D,by simp_all[cQ],l⟩
 |it s pos=>obtain⟨b,G,l⟩:=h;exact⟨b,by simp_all[cQ],l⟩
 |lp xs=>obtain⟨D,G,I,h2⟩:=h;exact⟨D,by simp_all[cQ],λg hg=>I g (by simp_all[cQ]),h2⟩
 |rn e sz k e' sz' xs ys=>obtain⟨m,D,F,G,l⟩:=h;exact⟨m,D,F,by simp_all[cQ],l⟩
def mr_at {id b:Nat} {B:List Value} {val:Value} {X:Prop} (z:loc id= .tuple (.map (some b)::B).toArray):(∀q u,yD q (loc id) u->yD q val u)\/X:= .inl λq u l=>by rw[z] at l;cases q with
 |full=>obtain⟨A,n,c,e,_⟩:=l;cases e
 |nr q=>obtain⟨G,D,e,⟨A,n,c,F⟩,_⟩:=l;simp_all
 |bs q=>obtain⟨b,e,_⟩:=l;cases e
def Rel.Yi (B:Rel N w0 μ0 L μ loc st a w) {id:Nat} {o o':Ob} {val:Value} {us:Array Value} (ho:st.ob id=some o) (R:loc id= .tuple us) (D:fS val=fS (loc id)) (U:id<10000) {g:Nat} (hg:lI (loc id) g) {w':World}
  (H:∀b,b≠g->w'.heap[b]? =w.heap[b]?) (hos:w'.os=w.os) (G:w'.tape=w.tape) (I:w'.output=w.output) (hsz:w'.heap.size=w.heap.size)
  (qQ:nv w0.heap.size L μ (qG loc id val) w' id o') (hap:∀j oj,st.ob j=some oj->j≠id->∀q,lI val q->¬lI (loc j) q) (Xr:(∀q u,yD q (loc id) u->yD q val u)\/((∀i s,st.env i=some s->s.mentions (id+40000)=false)/\∀i S,st.ob i=some S->noAt id S)) (hdr:L.q->w.drawn<=w'.drawn:=by exact λ_=>aU _):Rel N w0 μ0 L μ (qG loc id val) { st with ob:=put st.ob id (some o') } a w':=by
 obtain⟨O,hlt,C8⟩:=(B.obs _ o ho).block g hg
 have l:=(B.drop id).world (Mu.le.refl _) (λ_ _ _ h=> .inl h) (λb j v h=>by
   have:=B.xZ b j v h
   grind[jx]) (λi S z b hb=>by
   by_cases e:id=i
   .subst e;simp[cZ] at z
   .simp[bR _ _ e] at z;have F:b≠g:=λe'=>by subst e';exact B.apart _ i o _ ho z e b hg hb
    exact⟨H b F,((B.obs i _ z).block b hb).2.2⟩) (λb hb hl=>by
   refine H b (λe=> ?_);subst e;rcases O with h|h|⟨v,V,h⟩
   .omega
   .exact hl h.cL
   .exact hl ⟨id,v,V,h⟩) hos G I af hdr
 refine⟨l.small,l.names,?_,l.size,l.defers,?_,l.xZ,l.base,?_,?_,l.keep,l.os,l.tape,l.output,l.grown,l.drawn⟩
 .intro i v V h9 z;have F:i≠id:=λe=>by omega
  rw[cQ _ _ F];exact B.fix i v V h9 z
 .intro i s z;obtain⟨v,V,hr⟩:=l.env i s z;grind[NG]
 .intro i S z;by_cases e:id=i
  .simp_all[cZ]
  .simp[bR _ _ e] at z;exact ZW R D (Xr.imp (λh=>h) λh=>h.2 i _ z) (l.obs i _ (by simp_all[bR])) (c9 e)
 .intro i j S oj z hj hij q hq;by_cases ei:id=i
  .simp_all[bR,cI,cQ,c9]
  .simp[bR _ _ ei] at z;rw[cQ _ _ (c9 ei)] at hq;by_cases ej:id=j
   .grind[cI]
   .simp[bR _ _ ej] at hj;rw[cQ _ _ (c9 ej)];exact B.apart i j _ _ z hj hij q hq
def Rel.I1 (l:Rel N w0 μ0 L μ loc st a w) (id:Nat):Rel N w0 μ0 L μ loc (st.dw id) a w:=by
 have V:qG loc id (loc id)=loc:=funext λi=>by grind[cI,cQ]
 have q:∀i D,(st.dw id).ob i=some D->i≠id/\∃F,st.ob i=some F/\D=F.dw id:=λi D h=>by
  by_cases e:id=i
  .simp_all[St.dw,cZ]
  .simp[St.dw,bR _ _ e,cB] at h;grind
 refine⟨l.small,l.names,l.fix,l.size,l.defers,?_,l.xZ,l.base,?_,?_,l.keep,l.os,l.tape,l.output,l.grown,l.drawn⟩
 .intro i s z;simp[St.dw,cB] at z;obtain⟨s',B,rfl⟩:=z;obtain⟨v,hv,U⟩:=l.env i _ B;simp_all[jF]
 .intro i D z;obtain⟨H,F,B,rfl⟩:=q i _ z;have:=DU (x:=loc id) (l.obs i _ B) H;simp_all
 .intro i j D F z O G;obtain⟨_,R,B,_⟩:=q i _ z;obtain⟨_,S,I,_⟩:=q j _ O;exact l.apart i j _ _ B I G
def BH {t:TypeId} {m k:Operand} {B:TypeId} {id:Nat} {key:AV} {k' e:TypeId} {F:Nat} {D:List AV} {G:List (Option (List (List AV)))} (h:Nr P st t m k=some (B,id,key,k',e,F,D,G)):
  ∃q,P.underlying t=some (.map q B)/\bD P t st m=some (.row id)/\(bD P q st k).bind iY =some key/\st.ob id=some (.mr k' e F D G)/\kg P q key=true/\id<10000:=by
 unfold Nr at h;split at h
 .rename_i q H S;split at h
  .rename_i z l R O;split at h
   .cases I:(kg P q l&&Nat.blt z 10000) with
    |false=>simp_all
    |true=>simp_all
   grind
  grind
 grind
def Uh {t:TypeId} {s:Nat} (h:qq P t=some (.dD s [])) (w:World):(zeroValue t).run P w= .ok (.slice none 0 0) w:=by
 unfold qq at h;split at h
 .split at h
  .simp_all
  .unfold ofConst at h;split at h
   .cases h
   .cases h
   .cases h
   .simp_all[zeroValue,typeInfo]
   .cases h
   .cases h
   .grind
   grind
  grind
 grind
def MK {o:Oper} {t:TypeId} {x:Operand} {d:Nat} (V:Rel N w0 μ0 L μ loc st a w) (hd:d<N) (AP:o.dst=some d) (ho:o.op= .load t x) (h:xB P st t x d=some st') (hK:mE N w0 μ0 L st' K):o.uh P a w K Q:=by
 unfold xB at h;split at h
 .rename_i id sz i off O hagg;split at h
  .rename_i e sz' k e' s' xs ys S;split at h
   .rename_i zs hvi;cases hb:(Nat.beq sz sz'&&Nat.beq off k&& !(Nat.beq id d)&&Nat.blt id 10000) with
    |false=>simp_all
    |true=>
    rw[hb] at h;simp only[ak,aW] at h;subst h;simp only[aS,gW] at hb;obtain⟨⟨⟨b1,b2⟩,b3⟩,b4⟩:=hb;have e1:=beq_iff.1 b1;have e2:=beq_iff.1 b2;subst e1 e2;have hne:id≠d:=λe=>by simp_all
    have hid:id<10000:=cN.mp b4;have hd':d<10000:=e8 hd V.small;obtain⟨g,n,c,H,hxa⟩:=bf V O;obtain⟨m,us,vs,hl,hm,U,hrc,hk,h2,h3,h4,h5,h6,h7⟩:=V.obs id _ S;obtain⟨u,cells,k1,k2,k3,k4,k5⟩:=h4 i zs hvi;have Nc:m= .slice (some ⟨g,0,none⟩) n c:=by rw[hl] at H;exact H
    have I:=U.cells (g:=g) (by rw[Nc];rfl) _ _ k2;rw[add_lit,eO] at I
    refine gB (v:=u) (w':=w) (by
     unfold execOp;rw[ho]
     simp[hxa,Instr.loadAt,Instr.sureAddr,loadVar,rG hagg,I]) ?_
    rw[AP];have hil:i<us.length:=(bQ.1 k1).1;have hLid:∀{q},Gz w0.heap.size L id q->w0.heap.size<=q\/Vi L q:=λ{q} B=>V.BI hid B
    have r1:=V.Yi (id:=id) (o':= .rn e sz off e' s' xs (ys.set i none)) (val:= .tuple (m::us.set i undef).toArray) (g:=g) (w':=w) S hl (by rw[hl];rfl) hid (by rw[hl];exact kA.2 (.inl (by rw[Nc];rfl))) (λ_ _=>rfl) rfl rfl rfl rfl (by
      have Ap:∀(q:Nat) (z:Value),(us.set i undef)[q]? =some z->∀g,bH z=some g->us[q]? =some z:=λq z F g D=>by
       by_cases l:q=i
       .rw[l,kJ hil] at F;injection F with F;subst F;simp[undef,bH] at D
       grind
      refine⟨m,us.set i undef,vs,cI _ _ _,hm,U,hrc,hk,by simp[h2],by simp[h3],λq zs' B=> ?_,λq B=> ?_,λz F g D=> ?_,λq q' x y O hy hqq g D hg'=>h7 q q' x y (Ap q x O g D) (Ap q' y hy g hg') hqq g D hg'⟩
      .have l:q≠i:=λe=>by subst e;simp[nE] at B
       rw[gX (c9 l)] at B;obtain⟨u',R,m1,m2⟩:=h4 q zs' B;exact⟨u',R,by rw[gX (c9 l)];exact m1,m2⟩
      .by_cases l:q=i
       .subst l;simp[nE,hil]
       .rw[gX (c9 l)] at B;rw[gX (c9 l)];exact h5 q B
      .rcases pS F with F|rfl
       .exact h6 z F g D
       .simp[undef,bH] at D) (λj oj hj G q B=>by
      refine λUm=>V.apart _ j _ _ S hj (c9 G) q ?_ Um
      rw[hl];rcases kA.1 B with B|⟨z,F,Xw⟩
      .exact kA.2 (.inl B)
      .rcases pS F with F|rfl
       .exact kA.2 (.inr ⟨z,F,Xw⟩)
       .simp[undef,bH] at Xw) (.inl λq u B=>by
      rw[hl] at B;cases q with
      |full=>obtain⟨A,n,c,e,_⟩:=B;cases e
      |bs q=>obtain⟨b,e,_⟩:=B;cases e
      |nr q=>
       obtain⟨m',us',e,h1,h2⟩:=B;have e':=aP Array.toList (Value.tuple.inj e);obtain⟨rfl,rfl⟩:=e';refine⟨m,_,rfl,h1,λx O=> ?_⟩;by_cases l:q=i
       .subst l;rw[kJ hil] at O;injection O with O;exact .inl O.symm
       .rw[gX (c9 l)] at O;exact h2 x O)
    have hsl:fS u=u:=by rcases k3.2 with⟨e1,_⟩|⟨g,cap,cur,e1,_⟩<;>rw[e1]<;>rfl
    have hin:∀g,lI u g->bH u=some g:=λg D=>by rcases k3.2 with⟨e1,_⟩|⟨g',cap,cur,e1,_⟩<;>rw[e1] at D⊢<;>exact ia.1 D
    have r2:=r1.new (o:= .row _ _ _) (.inl hd') (by
      refine⟨_,by rw[cI];omega,k4,λg D=> ?_⟩;rw[cI] at D;obtain⟨m1,m2⟩:=k5 g (hin g D)
      exact⟨(hLid m1).imp (λh=>h) .inl,m2⟩) (λj oj hj hjd g D=>by
      by_cases G:id=j
      .subst G;rw[cI];intro hb;rcases kA.1 hb with B|⟨z,F,Xw⟩
       .grind
       .obtain⟨q,B,eq⟩:=iV.1 F;have hq':(us.set i undef)[q]? =some z:=by grind
        by_cases l:q=i
        .grind[undef,bH]
        grind
      .simp[bR _ _ G] at hj;rw[cQ _ _ (c9 G)]
       exact V.apart _ j _ _ S hj G g (by grind[kA]))
    exact hK _ _ _ _ (r2.set (λi hi=>by simp_all) (Lh hsl))
   grind
  grind
 grind
def TU {q:Type}:∀{l:List q} {k:Nat} {a:q},l[k]? =some a->l.set k a=l
 |[],_,_,h=>by simp at h
 |x::l,0,a,h=>by simp_all
 |x::l,k+1,a,h=>by simp at h;simp[TU h]
def Dp {q k:Nat} {u:Value} (U:k<q) (F:rep μ .hole u):∀{xs:List (List AV)} {B:List Value} {i:Nat},cT μ q xs B->i<xs.length->(∀c∈xs,c[k]? =some AV.hole)->
  cT μ q xs (B.set (i *q+k) u)/\i *q+k<B.length
 |[],_,_,_,h,_=>by simp at h
 |x::xs,B,i,⟨O,ws,e,D,H,I⟩,hi,l=>by subst e;have V:=l x ai;have S:=F;rw[rep] at S;cases i with
  |zero=>
   rw[wM,eO,yU _ _ af];refine⟨⟨_,ws,rfl,⟨?_,λz G=> ?_⟩,by simp[H],I⟩,aH⟩
   .have:=K8 D.1 (i:=k) F;rwa[TU V] at this
   .rcases pS G with G|rfl
    .exact D.2 z G
    simp_all
  |succ i=>
   obtain⟨r1,r2⟩:=Dp U F I (i:=i) (by simp_all) λc R=>l c (by simp[R])
   have e1:(i+1) *q+k-O.length=i *q+k:=by rw[ny];omega
   rw[pV _ _ (by grind),e1];exact⟨⟨O,_,rfl,D,H,r1⟩,by grind⟩
def Tn {e:TypeId} {H:Nat} {m u:Value} {n p:Nat} {B:List Value} (h:w.ownsRow 0 e H m n B) (hp:p<B.length) (hu:u.oneCell'=true):
  ∃g z q,m= .slice (some ⟨g,0,none⟩) n z/\(storeCells ⟨g,p,none⟩ [u] 0).run P w= .ok () q/\q.ownsRow 0 e H m n (B.set p u)/\(∀b,b≠g->q.heap[b]? =w.heap[b]?)/\q.os=w.os/\q.tape=w.tape/\q.output=w.output/\q.heap.size=w.heap.size/\q.drawn=w.drawn:=by
 rcases h.2 with⟨_,D⟩|⟨g,z,l,e1,_,F,O,R,V,G⟩
 .have:=h.1;simp_all
 .have U:p<l.size:=by
   have D:=aP List.length G;simp at D;omega
  refine⟨g,_,_,e1,wN P g p e _ 0 _ w F aH (by simp_all),⟨by simp[h.1], .inr ⟨g,_,_,e1,cW _,Bc w g _ _ e _ F,O,R,?_,?_⟩⟩,λb S=>wO w g b _ S,rfl,rfl,rfl,by simp,rfl⟩
  .simp;omega
  .have I:l.toList.take (p+0)++[u]++l.toList.drop (p+0+[u].length)=l.toList.set p u:=by
    rw[Hh,aB af];simp
   rw[I,List.take_set,G]
def Tx {o:Oper} {t:TypeId} {x y:Operand} {id sz i B j:Nat} (I:Rel N w0 μ0 L μ loc st a w) (AP:o.dst=none) (ho:o.op= .store t x y) (hx:bD P 0 st x=some (.rp id sz i B)) (hy:bD P t st y=some (.row j))
  (h:HW P st t id sz i B j=some st') (hK:mE N w0 μ0 L st' K):o.uh P a w K Q:=by
 unfold HW at h;split at h
 .rename_i e sz' k e' s' xs ys e2 s2 zs hagg hsz U D;cases G:(Nat.beq sz sz'&&Nat.beq B k&&Nat.blt id 10000&&Nat.blt j 10000&&Nat.beq e' e2&&Nat.beq s' s2&&Nat.blt i ys.length&& !(Nat.beq id j)) with
  |false=>simp_all
  |true=>
  rw[G] at h;simp only[ak,aW] at h;subst h;simp only[aS,gW] at G;obtain⟨⟨⟨⟨⟨⟨⟨b1,b2⟩,b3⟩,b4⟩,b5⟩,b6⟩,b7⟩,b8⟩:=G;have c1:=beq_iff.1 b1;have c2:=beq_iff.1 b2;have c5:=beq_iff.1 b5;have c6:=beq_iff.1 b6;subst c1 c2 c5 c6;have hne:id≠j:=λe=>by simp_all
  have hid:id<10000:=cN.mp b3;have hj:j<10000:=cN.mp b4;have hil:i<ys.length:=cN.mp b7;obtain⟨g,n,c,O,hxa⟩:=bf I hx;have Re:a.eval y=loc j:=(bf I hy:a.eval y=fS (loc j)).trans (jj (I.obs j _ D));obtain⟨cells,hrow,ZE,hgj⟩:=I.obs j _ D;obtain⟨m,us,vs,hl,hm,hown,hrc,hk,h2,h3,h4,h5,h6,h7⟩:=I.obs id _ U;have Nc:m= .slice (some ⟨g,0,none⟩) n c:=by rw[hl] at O;exact O
  have S:rep μ .hole (loc j):=by rcases hrow.2 with⟨e1,_⟩|⟨g',cap,cur,e1,_⟩<;>rw[e1]<;>simp[rep,Value.oneCell',Value.cells]
  have V:(loc j).oneCell'=true/\(loc j).cells= #[loc j]:=by simpa[rep] using S
  obtain⟨abT,hp⟩:=Dp hk.1 S hrc (i:=i) af hk.2;obtain⟨g',cap,w',e1,hrun,hown',hch,hos,htape,hout,hsize,hdr⟩:=Tn (P:=P) hown hp V.1;have eg:g=g':=by rw[Nc] at e1;simp at e1;exact e1.1
  subst eg;have hin:∀q,lI (loc j) q->bH (loc j)=some q:=λq l=>by rcases hrow.2 with⟨e1,_⟩|⟨g',cap,cur,e1,_⟩<;>rw[e1] at l⊢<;>exact ia.1 l
  have R:∀q,bH (loc j)=some q->¬lI (loc id) q:=λq l=>I.apart j id _ _ D U (c9 hne) q (.inl l)
  have hbm:∀q,bH (loc j)=some q->bH m≠some q:=λq l e=>R q l (by rw[hl];exact kA.2 (.inl e))
  have hbu:∀u∈us,∀q,bH u=some q->bH (loc j)≠some q:=λu hu q l e=>R q e (by rw[hl];exact kA.2 (.inr ⟨u,hu,l⟩))
  have hmg:bH m=some g:=by rw[Nc];rfl
  refine F6 (w':=w') (by
   unfold execOp;rw[ho];have h1:(a.eval y).cells.size=1:=by rw[Re,V.2];rfl
   have h2:(a.eval y).cells.toList=[loc j]:=by rw[Re,V.2]
   simp only[Instr.storeAt,hxa,Instr.sureAddr,jB,tJ,kV,storeVar,lz hsz,h1,h2,ne_eq,rf,eP,hrun]) ?_
  rw[AP];have hob1:((st.dw j).dw (id+40000)).ob id=some (.rn e sz B e' s' xs ys):=by have hne2:id+40000≠id:=af;simp[St.dw,bR _ _ (c9 hne),bR _ _ hne2,U,Ob.dw]
  have hnm:∀(s:SV) (q:Nat),(s.dw q).mentions q=false:=λs q=>by unfold SV.dw;cases h:s.mentions q with
   |true=>rfl
   |false=>exact h
  have iu:i<us.length:=af
  refine hK _ _ _ _ (((I.I1 j).I1 (id+40000)).Yi (id:=id) (o':= .rn e sz B e' s' xs (ys.set i (some zs))) (val:= .tuple (m::us.set i (loc j)).toArray) (g:=g) (w':=w') hob1 hl (by rw[hl];rfl) hid (by rw[hl];exact kA.2 (.inl hmg)) hch hos htape hout hsize ?_ (λq oj l H z F Xw=> ?_) (.inr ⟨λt s hs=>by
   simp only[St.dw,cB] at hs;obtain⟨s',_,rfl⟩:=hs;exact hnm _ _,λt o ho'=>by
   by_cases e:id+40000=t
   .subst e;simp[St.dw,cZ] at ho'
   .simp only[St.dw,bR _ _ e,cB] at ho';obtain⟨o1,_,rfl⟩:=ho';cases o1<;>simp only[Ob.dw,noAt];intro c hc;obtain⟨c',_,rfl⟩:=aD.1 hc
    exact hnm _ _⟩) (λ_=>by omega))
  .have split:∀q z,(us.set i (loc j))[q]? =some z->us[q]? =some z/\q≠i\/q=i/\z=loc j:=λq z F=>by
    by_cases l:q=i
    .subst l;rw[kJ iu] at F;injection F with F;exact .inr ⟨rfl,F.symm⟩
    .rw[gX (c9 l)] at F;exact .inl ⟨F,l⟩
   refine⟨m,us.set i (loc j),vs.set (i *sz+B) (loc j),cI _ _ _,hm,hown',abT,hk,by simp[h2],by simp[h3],λq zs' l=> ?_,λq l=> ?_,λz F q l=> ?_,λq q' z z' F hz' hqq b G hb'=> ?_⟩
   .by_cases H:q=i
    .subst H;rw[kJ hil] at l;simp only[aW] at l;subst l;refine⟨loc j,cells,by rw[kJ iu],by rw[kJ hp],mo hrow (λb G=>hch b λe=>by subst e;exact hbm b G hmg),ZE,λb G=> ?_⟩;obtain⟨m1,m2⟩:=hgj b (.inl G);exact⟨(I.BI hj m1).imp (λh=>h) .inl,m2⟩
    .rw[gX (c9 H)] at l;obtain⟨u',cells',m1,m2,m3,m4,m5⟩:=h4 q zs' l;have hpq:i *sz+B≠q *sz+B:=λe=>H (Nat.eq_of_mul_eq_mul_right (nF (cW _) hk.1) af)
     exact⟨u',_,by grind,by rw[gX hpq];exact m2,mo m3 (λb G=>hch b λe=>by grind),m4,m5⟩
   .grind
   .grind
   .rcases split q z F with⟨hu2,_⟩|⟨e1,e2⟩<;>rcases split _ _ hz' with⟨hv2,_⟩|⟨e3,e4⟩
    .exact h7 q _ z _ hu2 hv2 hqq b G hb'
    .rw[e4] at hb';exact hbu z (aZ hu2) b G hb'
    .rw[e2] at G;exact hbu _ (aZ hv2) b hb' G
    .exact hqq (e1.trans e3.symm)
  .have hq4:id+40000≠q:=λe=>by subst e;simp[St.dw,cZ] at l
   rw[St.dw] at l;simp[bR _ _ hq4,cB] at l;obtain⟨oj0,l,_⟩:=l;have Um:q≠j:=λe=>by simp_all[St.dw,cZ]
   simp[St.dw,bR _ _ (c9 Um),cB] at l;obtain⟨oj',hq',_⟩:=l;rcases kA.1 F with F|⟨u,hu,F⟩
   .exact I.apart _ q _ _ U hq' (c9 H) z (by grind[kA]) Xw
   .rcases pS hu with hu|rfl
    .exact I.apart _ q _ _ U hq' (c9 H) z (by grind[kA]) Xw
    .exact I.apart j q _ _ D hq' (c9 Um) z (.inl F) Xw
 grind
def Pf {o:Oper} {x:Operand} {id d:Nat} (q:Rel N w0 μ0 L μ loc st a w) (hd:d<N) (z:o.dst=some d) (ho:o.op= .assign x) (hx:bD P o.type st x=some (.row id)) (h:VY st id d=some st') (U:mE N w0 μ0 L st' K):o.uh P a w K Q:=by
 unfold VY at h;split at h
 .rename_i e sz xs l;cases B:Nat.beq _ d with
  |true=>rw[B] at h;simp at h;subst h;have:=beq_iff.1 B;subst this;have S :=(bf q hx).trans (jj (q.obs _ _ l));refine gB (v:=loc id) (w':=w) (by simp_all[execOp]) ?_;rw[z];exact U _ _ _ _ (q.set (λi hi=>by simp_all) ((jj (q.obs _ _ l)).symm))
  |false=>
  rw[B] at h;cases V:Nat.blt id 10000 with
  |false=>simp_all
  |true=>
   rw[V] at h;simp at h;subst h;have I :=cN.mp V;have H :=e8 hd q.small;have S :=(bf q hx).trans (jj (q.obs _ _ l));obtain⟨vs,hown,R,hm⟩:=q.obs _ _ l;have D:=jj (q.obs _ _ l);refine gB (v:=loc id) (w':=w) (by simp_all[execOp]) ?_;rw[z]
   have r1:=(q.I1 id).new (o:= .row e _ _) (.inl H) (by
     refine⟨vs,by rw[cI];omega,R,λg G=> ?_⟩;rw[cI] at G;obtain⟨m1,m2⟩:=hm g G
     exact⟨(q.BI I m1).imp (λh=>h) .inl,m2⟩) (λj oj hj hjd g G=>by
     by_cases F:id=j
     .simp_all[St.dw,cZ]
     .simp[St.dw,bR _ _ F,cB] at hj;obtain⟨oj',O,_⟩:=hj
      exact q.apart _ j _ _ l O F g G)
   exact U _ _ _ _ (r1.set (λi hi=>by simp_all) (Lh D))
 grind
def Zk {o:Oper} {t:TypeId} {m k:Operand} {d:Nat} (V:Rel N w0 μ0 L μ loc st a w) (hd:d<N) (AP:o.dst=some d) (ho:o.op= .lookup t m k false) (h:Ns P st t m k d=some st') (hK:mE N w0 μ0 L st' K):o.uh P a w K Q:=by
 unfold Ns at h;split at h
 .rename_i et id key k' e sz ks vs hmk;obtain⟨kt,hu,hm,hk,R,S,hid⟩:=BH hmk;cases hdd:Nat.beq id d with
  |true=>rw[hdd] at h;cases h
  |false=>
  simp only[hdd,az] at h;have hne:id≠d:=λe=>by simp_all
  obtain⟨b,dM,clock,us,hl,hown,hh,C8,h1,h2,h3,h4,h5,h6⟩:=V.obs id _ R;have Nc:a.eval m= .map (some b):=by
   have:a.eval m=fS (loc id):=bf V hm
   rw[this,hl];rfl
  have O:=fP V hk;have hd':d<10000:=e8 hd V.small;split at h
  .rename_i i hf;have hfk:=pe O S h1 hf w;obtain⟨ent,he,hrun,_⟩:=hfk;split at h
   .rename_i xs hvi;injection h with h;subst h;obtain⟨u,cells,k1,k2,k3,k4,k5⟩:=h4 i xs hvi;have hval:u=ent.val:=by
     have he':dM[i]? =some ent:=by simpa using he
     simp[he'] at k2;exact k2.symm
    refine gB (v:=ent.val) (w':=w) (by
     unfold execOp;rw[ho]
     simp[Nc,Instr.lookup,bM hu,gU hh,jk O S,hrun]) ?_
    rw[AP,<-hval];have hil:i<us.length:=(bQ.1 k1).1
    have r1:=V.Yi (id:=id) (o':= .mr k' e sz ks (vs.set i none)) (val:= .tuple (.map (some b)::us.set i undef).toArray) (g:=b) (w':=w) R hl (by rw[hl];rfl) hid (by rw[hl];exact pg.2 (.inl rfl)) (λ_ _=>rfl) rfl rfl rfl rfl (by
      refine⟨b,dM,clock,us.set i undef,cI _ _ _,hown,hh,C8,h1,by simp[h2],by simp[h3],λq ys U=> ?_,λq U=> ?_,λq q' x y hx hy hqq g B=> ?_⟩
      .have l:q≠i:=λe=>by subst e;simp[nE] at U
       rw[gX (c9 l)] at U;obtain⟨u',I,m1,m2⟩:=h4 q ys U;exact⟨u',I,by rw[gX (c9 l)];exact m1,m2⟩
      .by_cases l:q=i
       .subst l;simp[nE,hil]
       .rw[gX (c9 l)] at U;rw[gX (c9 l)];exact h5 q U
      .have Ap:∀(q:Nat) (z:Value),(us.set i undef)[q]? =some z->∀g,bH z=some g->us[q]? =some z:=λq z F g B=>by
        by_cases l:q=i
        .rw[l,kJ hil] at F;injection F with F;subst F;simp[undef,bH] at B
        .rwa[gX (c9 l)] at F
       intro G
       exact h6 q q' x y (Ap q x hx g B) (Ap q' y hy g G) hqq g B G) (λj oj hj D q U=>by
      refine λUm=>V.apart id j _ oj R hj (c9 D) q ?_ Um
      rw[hl];rcases pg.1 U with rfl|⟨z,F,Xw⟩
      .exact pg.2 (.inl rfl)
      .rcases pS F with F|rfl
       .exact pg.2 (.inr ⟨z,F,Xw⟩)
       .simp[undef,bH] at Xw)
    have hsl:fS u=u:=by rcases k3.2 with⟨e1,_⟩|⟨g,cap,cur,e1,_⟩<;>rw[e1]<;>rfl
    have hin:∀g,lI u g->bH u=some g:=λg B=>by rcases k3.2 with⟨e1,_⟩|⟨g',cap,cur,e1,_⟩<;>rw[e1] at B⊢<;>exact ia.1 B
    have r2:=(r1 (mr_at hl)).new (id:=d) (val:=u) (o:= .row e sz xs) (.inl hd') (by
      refine⟨cells,by rw[cI];omega,k4,λg B=> ?_⟩;rw[cI] at B;obtain⟨m1,m2⟩:=k5 g (hin g B)
      exact⟨m1.imp (λh=>h) .inl,m2⟩) (λj oj hj hjd g B=>by
      have H:=hin g B;by_cases D:id=j
      .subst D;rw[cI];intro hb;rcases pg.1 hb with rfl|⟨z,F,Xw⟩
       ·
        rcases k3.2 with⟨e1,_⟩|⟨g',cap,cur,e1,_,G,_⟩
        .rw[e1] at H;simp[bH] at H
        .rw[e1] at H;simp[bH] at H;subst H;rw[hh] at G;cases G
       .obtain⟨q,U,eq⟩:=iV.1 F;have hq':(us.set i undef)[q]? =some z:=by grind
        by_cases l:q=i
        .grind[undef,bH]
        grind
      .simp only[bR _ _ D] at hj;rw[cQ _ _ (c9 D)]
       exact V.apart id j _ oj R hj D g (by grind[pg]))
    exact hK _ _ _ _ (r2.set (λi hi=>by injection hi with hi;omega) (Lh hsl))
   grind
  .rename_i hf;split at h
   .rename_i s0 e' s F hs;split at h
    .injection h with h;subst h;have hfk:=pe O S h1 hf w;have hzr:=Uh F w
     refine gB (v:= .slice none 0 0) (w':=w) (by
      unfold execOp;rw[ho]
      simp[Nc,Instr.lookup,bM hu,gU hh,jk O S,hfk,hzr]) ?_
     rw[AP];refine hK _ _ _ _ ((V.new (.inl hd') ?_ (λj oj hj hne g B=>by simp[lI,bH] at B)).set (λi hi=>by simp_all) (Lh rfl));refine⟨[],⟨ai, .inl ⟨cI _ _ _,rfl⟩⟩,rfl,λg B=> ?_⟩;simp_all[cI,lI,bH]
    grind
   grind
  grind
 grind
def Xe {o:Oper} {t kt et:TypeId} {m k x:Operand} {id:Nat} {key:AV} {k' e:TypeId} {sz:Nat} {ks ks':List AV} {vs vs':List (Option (List (List AV)))} {xs:List (List AV)} {cells:List Value}
  (hR:Rel N w0 μ0 L μ loc st a w) (AP:o.dst=none) (ho:o.op= .mapUpdate t m k x\/o.op= .insert t m k x) (G:P.underlying t=some (.map kt et)) (Nc:a.eval m=fS (loc id)) (hkr:rep μ key (a.eval k)) (hok:kg P kt key=true)
  (R:st.ob id=some (.mr k' e sz ks vs)) (hid:id<10000) (D:DQ key (some xs) ks vs=some (ks',vs')) (S:w.ownsRow 0 e sz (a.eval x) xs.length cells) (hrc:cT μ sz xs cells)
  (hg:∀g,bH (a.eval x)=some g->(w0.heap.size<=g\/Vi L g)/\∀j,μ g j=none) (H:∀j oj,st.ob j=some oj->∀g,bH (a.eval x)=some g->¬lI (loc j) g)
  (hK:mE N w0 μ0 L { st with ob:=put st.ob id (some (.mr k' e sz ks' vs')) } K):o.uh P a w K Q:=by
 obtain⟨b,dM,clock,us,hl,hown,hh,C8,h1,h2,h3,h4,h5,h6⟩:=hR.obs id _ R;have hmv':a.eval m= .map (some b):=by rw[Nc,hl];rfl
 cases hf:qD key ks with
 |none=>simp[DQ,hf] at D
 |some r=>
 obtain⟨B,l,hrun,q1,q2,_⟩:=Dc (x:=a.eval x) G hh hkr hok h1 hf;have hlt:=(gx.1 hh).1;have hsl:∀g,lI (a.eval x) g->bH (a.eval x)=some g:=λg hg=>by rcases S.2 with⟨e1,_⟩|⟨g',cap,cur,e1,_⟩<;>rw[e1] at hg⊢<;>exact ia.1 hg
 have Vk:bH (a.eval x)≠some b:=λe=>by
  rcases S.2 with⟨e1,_⟩|⟨g',cap,cur,e1,_,I,_⟩
  .rw[e1] at e;simp[bH] at e
  .rw[e1] at e;simp[bH] at e;subst e;rw[hh] at I;cases I
 have hnu:∀u∈us,∀g,bH u=some g->bH (a.eval x)≠some g:=λu G g F hgx=>H id _ R g hgx (by rw[hl];exact pg.2 (.inr ⟨u,G,F⟩))
 have other:∀(u:Value) (cs:List Value) (ys:List (List AV)),w.ownsRow 0 e sz u ys.length cs->bH u≠some b->World.ownsRow { w with heap:=w.heap.setIfInBounds b (.map B l) } 0 e sz u ys.length cs:=λu cs ys G hub=>
  mo G (λg hg=>by
   have:b≠g:=λe=>hub (by rw[e];exact hg)
   simp only[];rw[wK this])
 have hub:∀u∈us,bH u≠some b:=λu G e=>by
  obtain⟨i,ys,m1,m2⟩:=V1 h2 h5 G e;obtain⟨u',cells',n1,n2,n3,_⟩:=h4 i ys m1;rw[m2] at n1;injection n1 with n1;subst n1;rcases n3.2 with⟨e1,_⟩|⟨g',cap,cur,e1,_,I,_⟩
  .rw[e1] at e;simp[bH] at e
  .rw[e1] at e;simp[bH] at e;subst e;rw[hh] at I;cases I
 have fin:∀us',(∀u∈us',u∈us\/u=a.eval x)->nv w0.heap.size L μ (qG loc id (.tuple (.map (some b)::us').toArray)) { w with heap:=w.heap.setIfInBounds b (.map B l) } id (.mr k' e sz ks' vs')->o.uh P a w K Q:=λus' AQ Gl=>by
  have r1:=hR.Yi (id:=id) (val:= .tuple (.map (some b)::us').toArray) (g:=b) (w':={ w with heap:=w.heap.setIfInBounds b (.map B l) }) R hl (by rw[hl];rfl) hid (by rw[hl];exact pg.2 (.inl rfl))
   (λb' hb'=>by simp only[];rw[wK (λe=>hb' e.symm)]) rfl rfl rfl ai Gl (λj oj hj hji q hq=>by
    rcases pg.1 hq with rfl|⟨z,V,Xw⟩
    .exact λUm=>hR.apart id j _ oj R hj (c9 hji) q (by rw[hl];exact pg.2 (.inl rfl)) Um
    .rcases AQ z V with V|rfl
     .exact λUm=>hR.apart id j _ oj R hj (c9 hji) q (by rw[hl];exact pg.2 (.inr ⟨z,V,Xw⟩)) Um
     .exact H j oj hj q Xw)
  have:((execOp a.eval o).run P w)= .ok .skip { w with heap:=w.heap.setIfInBounds b (.map B l) }:=by unfold execOp;rcases ho with ho|ho<;>rw[ho]<;>simp[hmv',hrun]
  exact F6 this (by rw[AP];exact hK _ _ _ _ (r1 (mr_at hl)))
 cases r with
 |none=>
  simp only[DQ,hf,aW,ck] at D;obtain⟨rfl,rfl⟩:=D;obtain⟨c1,c2⟩:=q1 rfl;have U:B.size=dM.size+1:=by have:=aP List.length c2;simpa using this
  refine fin (us++[a.eval x]) (λu G=>by simpa using G) ⟨b,B,l,us++[a.eval x],cI _ _ _,hown,by simp[hlt],C8,c1,by simp[h2],by simp[U,h3],λi ys hi=> ?_,λi hi=> ?_,λi j u v G hv hij g F O=> ?_⟩
  .by_cases hil:i<vs.length
   .rw[fL hil] at hi;obtain⟨u,cs,n1,n2,n3,n4,n5⟩:=h4 i ys hi;exact⟨u,cs,by rw[fL af];exact n1,by rw[c2,fL aH];exact n2,other u cs ys n3 (hub u (aZ n1)),n4,n5⟩
   .rw[fK af] at hi;have hi0:i-vs.length=0:=by
     have:=(bQ.1 hi).1;simp at this;omega
    rw[hi0] at hi;simp at hi;subst hi;refine⟨_,_,?_,?_,other _ _ _ S Vk,hrc,hg⟩
    .rw[fK af,h2,hi0];rfl
    .rw[c2,fK aH];simp[h3,hi0]
  .grind
  .have split:∀q z,(us++[a.eval x])[q]? =some z->(us[q]? =some z)\/(q=us.length/\z=a.eval x):=λq z V=>by
    by_cases hq:q<us.length
    .rw[fL hq] at V;exact .inl V
    .rw[fK af] at V;have h0 :=by
      have:=(bQ.1 V).1;simp at this;omega
     rw[h0] at V;simp at V;exact .inr ⟨af,V.symm⟩
   rcases split i u G with hu2|⟨e1,e2⟩<;>rcases split j v hv with hv2|⟨e3,e4⟩
   .exact h6 i j u v hu2 hv2 hij g F O
   .rw[e4] at O;exact hnu u (aZ hu2) g F O
   .rw[e2] at F;exact hnu v (aZ hv2) g O F
   .exact hij (e1.trans e3.symm)
 |some p=>
  simp[DQ,hf] at D;obtain⟨rfl,rfl⟩:=D;obtain⟨c1,c2,Ul⟩:=q2 p rfl;have U :=by have:=aP List.length c2;simpa using this
  refine fin (us.set p _) (λu G=>pS G) ⟨b,_,l,_,cI _ _ _,hown,by simp[hlt],C8,c1,by simp[h2],by grind,λi ys hi=> ?_,λi hi=> ?_,λi j u v G hv hij g F O=> ?_⟩
  .grind
  .grind
  grind
def RZ {o:Oper} {t:TypeId} {m k x:Operand} (z:Rel N w0 μ0 L μ loc st a w) (B:o.dst=none) (ho:o.op= .mapUpdate t m k x\/o.op= .insert t m k x) (h:VZ P st t m k x=some st') (hK:mE N w0 μ0 L st' K):o.uh P a w K Q:=by
 unfold VZ at h;split at h
 .rename_i et id key k' e sz ks vs hmk;obtain⟨kt,hu,hm,hk,O,S,G⟩:=BH hmk;have I :=bf z hm;have H:=fP z hk;split at h
  .split at h
   .split at h
    .split at h
     .rename_i ks' vs' q;injection h with h;subst h;have hx:a.eval (.const (.slice none 0 0))= .slice _ 0 0:=rfl;exact Xe z B ho hu I H S O G q (by(constructor<;>grind)) rfl (λg F=>by simp_all[bH]) (λj oj _ g F=>by simp_all[bH]) hK
     grind
    grind
   grind
  .split at h
   .rename_i j hx;split at h
    .rename_i e' s xs l;split at h
     .rename_i D;obtain⟨rfl,rfl,hj⟩:=D;split at h
      .rename_i ks' vs' q;injection h with h;subst h;have hne:id≠j:=λe=>by simp_all
       have U :=(bf z hx).trans (jj (z.obs j _ l));obtain⟨cells,hrow,hrc,V⟩:=z.obs j _ l;have R:(st.dw j).ob id=some (.mr k' e s ks vs):=by simp[St.dw,bR _ _ (c9 hne),O,Ob.dw]
       refine Xe (z.I1 j) B ho hu I H S R G q (by simp_all) hrc (λg F=> ?_) (λi oi hi g F=> ?_) hK
       .rw[U] at F;obtain⟨m1,m2⟩:=V g (.inl F);exact⟨z.BI hj m1,m2⟩
       .rw[U] at F;by_cases e:j=i
        .simp_all[St.dw,cZ]
        .simp[St.dw,bR _ _ e,cB] at hi;obtain⟨oi',hi',_⟩:=hi;exact z.apart j i _ _ l hi' e g (.inl F)
      grind
     grind
    grind
   grind
 grind
def U1 {o:Oper} {t k e z:TypeId} {s:Nat} {r:Option Operand} {d:Nat} (l:Rel N w0 μ0 L μ loc st a w) (H:d<N) (q:o.dst=some d) (ho:o.op= .makeMap t r) (U:P.underlying t=some (.map k e))
  (S:vD P st r=true) (F:mE N w0 μ0 L ((st.new d (.mr k z s [] [])).set (some d) (.row d)) K):o.uh P a w K Q:=by
 have B:=HI l U S;refine gB (v:= .map (some w.heap.size)) (w':=w.alloc (.map #[] 0)) (by simp_all[execOp]) ?_;rw[q];have D:=(l.Xn (tL w (.map #[] 0))).new (o:= .mr k z s [] []) (.inl (e8 H l.small))
  ⟨_, #[],0,[],cI _ _ _,l.grown,(by show(w.heap.push _)[w.heap.size]? =_;simp),uq l _ (aU _),by rfl,rfl,rfl,by simp,by simp,ai⟩ (λj oj O R g I=>by
  rcases pg.1 I with rfl|⟨u,hu,_⟩
  .intro G;have:=((l.obs j _ O).block _ G).2.1;omega
  simp_all)
 exact F _ _ _ _ (D.set (λi V=>by simp_all) (by show _=fS _;rw[cI];rfl))
def Zm {o:Oper} {t:TypeId} {x:Operand} {d:Nat} {s:List UInt8} (q:Rel N w0 μ0 L μ loc st a w) (B:d<N) (l:o.dst=some d) (H:o.op= .range t x) (I:P.underlying t=some .string) (G:(bD P t st x).bind iY =some (.str s))
  (z:mE N w0 μ0 L ((st.new d (.it s 0)).set (some d) (.ptr d 0)) K):o.uh P a w K Q:=by
 have F:=fP q G;rw[rep] at F;refine gB (v:= .pointer (some ⟨w.heap.size,0,none⟩)) (w':=w.alloc (.stringIter ⟨s.toArray⟩ 0)) (by simp_all[execOp,Instr.range,bM]) ?_;rw[l];refine z _ _ _ _ (q.made B (λg D=>tj.1 D) ?_ ?_)
 .exact⟨_,cI _ _ _, .inl q.grown,(by show(w.heap.push _)[w.heap.size]? =_;simp),uq q _ (aU _)⟩
 .exact⟨_,cI _ _ _,rfl⟩
def abl {o:Oper} {x:Operand} {d id pos:Nat} {s:List UInt8} (I:Rel N w0 μ0 L μ loc st a w) (hd:d<N) (l:o.dst=some d) (ho:o.op= .next x true) (hx:bD P 0 st x=some (.ptr id 0)) (D:st.ob id=some (.it s pos))
  (H:if pos<s.length then mE N w0 μ0 L (St.set { st with ob:=put st.ob id (some (.it s (pos+(Utf8.decode ⟨s.toArray⟩ pos).2))) } (some d) (.pv (.iQ [.bool true, .int .i64 pos, .int .i32 (Utf8.decode ⟨s.toArray⟩ pos).1]))) K
   else mE N w0 μ0 L (st.set (some d) (.pv (.iQ [.bool false]))) K):o.uh P a w K Q:=by
 obtain⟨b0,z,hv⟩:=bf I hx;obtain⟨b,U,F,S,C8⟩:=I.obs id _ D;rw[U] at z;simp only[A7,aW,A8,eH] at z;subst z;have G:(⟨s.toArray⟩:ByteArray).size=s.length:=by simp[ByteArray.size]
 have V:=(gx.1 S).1;have q:(getObj b).run P w= .ok (.stringIter ⟨s.toArray⟩ pos) w:=by simp[getObj,Sem.run,S]
 by_cases O:pos<s.length
 .rw[aB O] at H
  refine gB (v:= .tuple #[.bool true, .int .i64 pos, .int .i32 (Utf8.decode ⟨s.toArray⟩ pos).1]) (w':={ w with heap:=w.heap.setIfInBounds b (.stringIter ⟨s.toArray⟩ (pos+(Utf8.decode ⟨s.toArray⟩ pos).2)) }) (by
   unfold execOp;rw[ho];simp[Instr.next,hv,q,G,O,goInt]
   simp[setObj,Sem.run,S]) ?_
  rw[l];have r1:=I.write D (o':= .it s (pos+(Utf8.decode ⟨s.toArray⟩ pos).2)) (g:=b) (by rw[U];exact tj.2 rfl) (w':={ w with heap:=w.heap.setIfInBounds b (.stringIter ⟨s.toArray⟩ (pos+(Utf8.decode ⟨s.toArray⟩ pos).2)) }) (λb' R=>by simp only[];rw[wK (λe=>R e.symm)]) rfl rfl rfl ai ⟨b,U,F,by simp[V],C8⟩;refine H _ _ _ _ (r1.set (λi B=>by injection B with B;omega) ?_);show rep μ (.iQ _) _;rw[rep];exact⟨[.bool true, .int .i64 pos, .int .i32 (Utf8.decode ⟨s.toArray⟩ pos).1],rfl,cE (by simp[rep]) (cE (by simp[rep]) (cE (by simp[rep]) dA))⟩
 .rw[au O] at H
  refine gB (v:= .tuple #[.bool false]) (w':=w) (by
   unfold execOp;rw[ho]
   simp[Instr.next,hv,q,G,O]) ?_
  rw[l];refine H _ _ _ _ (I.set (λi B=>by injection B with B;omega) ?_);show rep μ (.iQ _) _;rw[rep];exact⟨[.bool false],rfl,cE (by simp[rep]) dA⟩
end
