/- READING. -/
import Derived.Test.YtmidjldjkbljjaaGreatDoorAmL
import Derived.Deep.Slices
import Derived.OpenShut
import Derived.Carry
import Derived.ProofKit
set_option linter.unusedVariables false
set_option linter.unusedSimpArgs false
namespace Go.AM
open Go.RowKit Go.ChangeShapes Go.WideShapes Go.ChangeAt
mutual
def AV.bulk:AV→Nat
 | .str s=>s.length+1
 | .cm _ xs=>DU xs+1
 | .agg cs=>kA cs
 | .bool _=>1
 | .int _ _=>1
 | .fn _ _=>1
 | .fG cs=>kA cs
 | .ref _=>1
 | .mp _ _=>1
 | .self _=>1
 | .ri=>1
def kA:List AV→Nat
 |[]=>0
 |a::l=>AV.bulk a+kA l
def DU:List (List AV)→Nat
 |[]=>0
 |c::l=>kA c+DU l
end
mutual
def AV.wf:AV→Prop
 | .str s=>s.length≤maxLen
 | .cm _ xs=>wfR xs
 | .agg cs=>N2 cs
 | .bool _=>True
 | .int k n=>(Lit.int k n).wf=true
 | .fn _ _=>True
 | .fG cs=>N2 cs
 | .ref _=>True
 | .mp _ _=>True
 | .self _=>True
 | .ri=>True
def N2:List AV→Prop
 |[]=>True
 |a::l=>AV.wf a∧N2 l
def wfR:List (List AV)→Prop
 |[]=>True
 |c::l=>N2 c∧wfR l
end
theorem Fe (a b:List AV):kA (a++b)=kA a+kA b:=by
 induction a with
 |nil=>simp [kA]
 |cons x a ih=>simp only [List.cons_append,kA,ih];omega
theorem Mm {a b:List AV}:N2 (a++b)↔N2 a∧N2 b:=by
 induction a with
 |nil=>simp [N2]
 |cons x a ih=>simp only [List.cons_append,N2,ih,and_assoc]
theorem U9 {l:List (List AV)} (h:∀c∈l,N2 c):wfR l:=by
 induction l with
 |nil=>trivial
 |cons c l ih=>exact ⟨h c (by simp),ih fun x hx=>h x (by simp [hx])⟩
structure nB {H:Type} (bk:DataW H→Nat) (J8:List (DataW H)→Nat):Prop where
 str:∀l,bk (.lit (.string l))=l.length+1
 lit:∀l,1≤bk (.lit l)
 nil:1≤bk .nil
 slice:∀e s,bk (.slice e s)=J8 e+J8 s+1
 agg:∀p,bk (.agg p)=J8 p+1
 nilA:J8 []=0
 Qn:∀d r,J8 (d::r)=bk d+J8 r
def IM (w:World):Mu:=fun b j=>Au w b j
theorem UR (w:World):PS (IM w) w:=fun _ _ _ h=>h
section
variable {H:Type} {enc:TypeId×Value→H} {P:Program} {w:World} {bk:DataW H→Nat} {J8:List (DataW H)→Nat}
def xR (enc:TypeId×Value→H) (P:Program) (w:World) (bk:DataW H→Nat) (n:Nat) (t:TypeId) (Q:List AV→Prop):Prop:=
 ∀cs d ps,DataW.trod enc P w 0 (fun _=>true) true n t cs=some (d,ps)→∃lu,Q lu∧gB (IM w) lu cs∧kA lu≤bk d∧N2 lu
theorem xR.zero {t:TypeId} {Q:List AV→Prop}:xR enc P w bk 0 t Q:=fun cs d ps h=>by simp [DataW.trod] at h
theorem xR.mono {n:Nat} {t:TypeId} {Q Q':List AV→Prop} (h:xR enc P w bk n t Q) (hq:∀a,Q a→Q' a):xR enc P w bk n t Q':=fun cs d ps hd=>
 let ⟨a,h1,h2⟩:=h cs d ps hd;⟨a,hq a h1,h2⟩
theorem LX (hB:nB bk J8) {n:Nat} {t:TypeId} {k:IntKind} (ht:P.underlying t=some (.int k)):xR enc P w bk n t fun lu=>∃x,lu=aB k x:=by
 intro cs d ps h;obtain ⟨x,rfl,hx,hw⟩:=DataW.trod_int ht h;simp only [Prod.mk.injEq] at hx;obtain ⟨rfl,rfl⟩:=hx;refine ⟨aB k x,⟨x,rfl⟩,⟨bq (by simp [rep]) bZ,by simp [Value.oneCell']⟩,?_,?_⟩
 ·simp only [aB,kA,AV.bulk];exact hB.lit _
 ·exact ⟨hw,trivial⟩
theorem B0 (hB:nB bk J8) {n:Nat} {t:TypeId} (ht:P.underlying t=some .string):xR enc P w bk n t fun lu=>∃x,lu=aA x:=by
 intro cs d ps h;obtain ⟨s,rfl,hx,hs⟩:=DataW.trod_string ht h;simp only [Prod.mk.injEq] at hx;obtain ⟨rfl,rfl⟩:=hx;refine ⟨aA s.data.toList,⟨_,rfl⟩,⟨bq (by simp [rep]) bZ,by simp [Value.oneCell']⟩,?_,?_⟩
 ·simp only [aA,kA,AV.bulk,hB.str];omega
 ·refine ⟨?_,trivial⟩
  have:s.data.toList.length=s.size:=by rw [Array.length_toList];rfl
  simp only [AV.wf];omega
theorem Dx {μ:Mu} {sz b:Nat}:∀{xs:List (List AV)} {off:Nat},(∀i x,xs[i]? =some x→∃vs,gB μ x vs∧vs.length=sz∧∀j u,vs[j]? =some u→μ b (off+i *sz+j)=some u)→fB μ sz b xs off:=by
 intro xs
 induction xs with
 |nil=>intro off _;simp [fB]
 |cons x xs ih=>
  intro off h;rw [fB];obtain ⟨vs,h1,h2,h3⟩:=h 0 x rfl;refine ⟨⟨vs,h1.1,h1.2,h2,fun j u hu=>by have:=h3 j u hu;simpa using this⟩,ih fun i y hy=> ?_⟩;obtain ⟨us,k1,k2,k3⟩:=h (i+1) y (by simpa using hy);refine ⟨us,k1,k2,fun j u hu=> ?_⟩;have:=k3 j u hu
  rwa [show off+(i+1) *sz+j=off+sz+i *sz+j from by rw [Nat.add_mul];omega] at this
theorem Qh (hB:nB bk J8):∀(xs:List (List AV)) (ds:List (DataW H)),xs.length=ds.length→(∀(i:Nat) (x:List AV) (d:DataW H),xs[i]? =some x→ds[i]? =some d→kA x≤bk d)→DU xs≤J8 ds:=by
 intro xs
 induction xs with
 |nil=>intro ds _ _;simp [DU]
 |cons x xs ih=>
  intro ds hl h;cases ds with
  |nil=>simp at hl
  |cons d ds=>
   rw [hB.Qn];have h0:=h 0 x d rfl rfl;have:=ih ds (by simpa using hl) fun i y e hy he=>h (i+1) y e (by simpa using hy) (by simpa using he)
   simp only [DU];omega
theorem s7 (hB:nB bk J8) {n:Nat} {t e:TypeId} {sz:Nat} (ht:P.underlying t=some (.slice e)) (hc:P.cellsOf e=sz) (hpos:0<sz) {Q:List AV→Prop} (he:xR enc P w bk n e Q):
  xR enc P w bk (n+1) t fun lu=>∃xs,lu=[.cm sz xs]∧∀x∈xs,Q x:=by
 intro cs d ps h;rcases DataW.trod_slice ht h with ⟨rfl,hx⟩|⟨a,len,cap,elems,rest,n',hn,rfl,hx,hb,hl,hm,hlen,hel,_,_⟩
 ·simp only [Prod.mk.injEq] at hx
  obtain ⟨rfl,rfl⟩:=hx;refine ⟨[.cm sz []],⟨[],rfl,by simp⟩,⟨bq ?_ bZ,by simp [Value.oneCell']⟩,?_,?_⟩
  ·rw [rep];exact ⟨none,0,rfl,Nat.le_refl _,by simp [maxLen], .inl rfl⟩
  ·simp only [kA,AV.bulk,DU];exact hB.nil
  ·simp [N2,AV.wf,wfR]
 ·obtain rfl:n=n':=by omega
  simp only [Prod.mk.injEq] at hx;obtain ⟨rfl,rfl⟩:=hx;have each:∀i,i<len→∃av:List AV,Q av∧∃cs',w.cells? 0 (a.add (i *sz)) sz=some cs'∧gB (IM w) av cs'∧(∀x,elems[i]? =some x→kA av≤bk x.1)∧N2 av:=by
   intro i hi;have h1:=hel i hi;rw [hc] at h1;obtain ⟨x,hx⟩:∃x,elems[i]? =some x:=⟨elems[i]'(by omega),List.getElem?_eq_getElem (by omega)⟩
   rw [hx] at h1;obtain ⟨cs',h2,h3⟩:=Option.bind_eq_some_iff.1 h1;obtain ⟨av,k1,k2,k3,k4⟩:=he cs' x.1 x.2 h3;exact ⟨av,k1,cs',h2,k2,fun y hy=>by rw [hx] at hy;injection hy with hy;subst hy;exact k3,k4⟩
  obtain ⟨f,hf⟩:=Deep.choose_lt each;have iW:∀i x,((List.range len).map f)[i]? =some x→i<len∧x=f i:=by
   intro i x hx;simp only [List.getElem?_map,Option.map_eq_some_iff] at hx;obtain ⟨j,hj,rfl⟩:=hx;obtain ⟨h1,h2⟩:=List.getElem?_eq_some_iff.1 hj;simp at h1 h2;subst h2;exact ⟨h1,rfl⟩
  have hmem:∀x∈(List.range len).map f,∃i,i<len∧x=f i:=by
   intro x hx;simp only [List.mem_map,List.mem_range] at hx;obtain ⟨i,hi,rfl⟩:=hx;exact ⟨i,hi,rfl⟩
  refine ⟨[.cm sz ((List.range len).map f)],⟨_,rfl,fun x hx=> ?_⟩,⟨bq ?_ bZ,by simp [Value.oneCell']⟩,?_,?_⟩
  ·obtain ⟨i,hi,rfl⟩:=hmem x hx;exact (hf i hi).1
  ·rw [rep]
   refine ⟨some a,cap,by simp,by simpa using hl,hm,?_⟩;cases len with
   |zero=>exact .inl (by simp)
   |succ len=>
    right
    have VC:a.spot=none:=by
     obtain ⟨_,cs',h2,_⟩:=hf 0 (by omega);simp only [World.cells?,Nat.zero_le,if_true] at h2;have h3:=mapM_some_get h2 0 0 (by simp [hpos]);have h4:cs'[0]? ≠none:=by
      have:=mapM_some_length h2;simp at this;intro hnone;rw [List.getElem?_eq_none_iff] at hnone;omega
     rw [←h3] at h4;simp only [Addr.add,Nat.zero_mul,if_true] at h4;cases hsp:a.spot with
     |none=>rfl
     |some q=>
      exfalso;apply h4;simp only [World.cell?,hsp];split<;>simp
    obtain ⟨b,off,sp⟩:=a;simp only at VC;subst VC;refine ⟨b,off,rfl,Dx fun i x hx=> ?_⟩;obtain ⟨hi,rfl⟩:=iW i x hx;obtain ⟨_,cs',h2,k2,_⟩:=hf i hi;simp only [World.cells?,Nat.zero_le,if_true] at h2;refine ⟨cs',k2,by simpa using mapM_some_length h2,fun j u hu=> ?_⟩;have hj:j<sz:=by
     have:=mapM_some_length h2;simp at this;have:=(List.getElem?_eq_some_iff.1 hu).1;omega
    have h3:=mapM_some_get h2 j j (by simp [hj]);rw [hu,Deep.add_add] at h3;unfold IM;have e:(⟨b,off,none⟩:Addr).add (i *sz+j)=⟨b,off+i *sz+j,none⟩:=by
     unfold Addr.add;split
     ·rename_i h0;rw [Nat.add_assoc,h0];rfl
     ·simp [Nat.add_assoc]
    rw [e] at h3;exact mB h3 (k2.2 u (List.mem_of_getElem? hu))
  ·simp only [kA,AV.bulk,hB.slice]
   have:=Qh hB ((List.range len).map f) (elems.map (·.1)) (by simp [hlen]) fun i x d hx hd=>by
    obtain ⟨hi,rfl⟩:=iW i x hx;simp only [List.getElem?_map,Option.map_eq_some_iff] at hd;obtain ⟨y,hy,rfl⟩:=hd;obtain ⟨_,_,_,_,k,_⟩:=hf i hi;exact k y hy
   omega
  ·refine ⟨U9 fun x hx=> ?_,trivial⟩
   obtain ⟨i,hi,rfl⟩:=hmem x hx;obtain ⟨_,_,_,_,_,k⟩:=hf i hi;exact k
def Cat:List (List AV→Prop)→List AV→Prop
 |[],lu=>lu=[]
 |Q::Qs,lu=>∃a b,lu=a++b∧Q a∧Cat Qs b
def FT (P:Program):Nat→List Field→Bool
 |_,[]=>true
 |off,f::l=>Nat.beq f.offset off&&FT P (off+P.cellsOf f.type) l
def L9 (P:Program):List Field→Nat
 |[]=>0
 |f::l=>P.cellsOf f.type+L9 P l
def PK (enc:TypeId×Value→H) (P:Program) (w:World) (bk:DataW H→Nat) (n:Nat):List Field→List (List AV→Prop)→Prop
 |[],[]=>True
 |f::l,Q::Qs=>xR enc P w bk n f.type Q∧PK enc P w bk n l Qs
 |_,_=>False
theorem Pf (hB:nB bk J8) {n:Nat} {cs:List Value}:∀(fl:List Field) (Qs:List (List AV→Prop)) (xs:List (DataW H×List MemPlace)) (off:Nat),PK enc P w bk n fl Qs→FT P off fl=true→xs.length=fl.length→off+L9 P fl≤cs.length→
  (∀(i:Nat) (f:Field),fl[i]? =some f→DataW.trod enc P w 0 (fun _=>true) true n f.type ((cs.drop f.offset).take (P.cellsOf f.type))=xs[i]?)→
  ∃lu,Cat Qs lu∧gB (IM w) lu ((cs.drop off).take (L9 P fl))∧kA lu≤J8 (xs.map (·.1))∧N2 lu:=by
 intro fl
 induction fl with
 |nil=>
  intro Qs xs off hQ _ hl _ _;cases Qs with
  |nil=>exact ⟨[],rfl,⟨by simp [L9,bF],by simp [L9]⟩,by simp [kA],trivial⟩
  |cons Q Qs=>exact hQ.elim
 |cons f fl ih=>
  intro Qs xs off hQ ho hl hle hx;cases Qs with
  |nil=>exact hQ.elim
  |cons Q Qs=>
   cases xs with
   |nil=>simp at hl
   |cons x xs=>
    simp only [FT,Bool.and_eq_true] at ho;have hoff:=beq_iff.1 ho.1;simp only [L9] at hle⊢;have h0:=hx 0 f rfl;rw [hoff] at h0;obtain ⟨a0,q0,r0,b0,w0⟩:=hQ.1 _ x.1 x.2 h0;obtain ⟨a1,q1,r1,b1,w1⟩:=ih Qs xs (off+P.cellsOf f.type) hQ.2 ho.2 (by simpa using hl) (by omega) fun i g hg=>hx (i+1) g (by simpa using hg)
    refine ⟨a0++a1,⟨a0,a1,rfl,q0,q1⟩,?_,?_,Mm.2 ⟨w0,w1⟩⟩
    ·rw [List.take_add,List.drop_drop]
     exact r0.append r1
    ·rw [Fe,List.map_cons,hB.Qn];omega
theorem yI (hB:nB bk J8) {n:Nat} {t:TypeId} {fs:Array Field} {Qs:List (List AV→Prop)} (ht:P.underlying t=some (.struct fs)) (ho:FT P 0 fs.toList=true) (hs:L9 P fs.toList=P.cellsOf t)
  (hQ:PK enc P w bk n fs.toList Qs):xR enc P w bk (n+1) t (Cat Qs):=by
 intro cs d ps h;obtain ⟨xs,n',hn,hx,hl,hxl,hall⟩:=DataW.trod_struct ht h;obtain rfl:n=n':=by omega
 simp only [Prod.mk.injEq] at hx;obtain ⟨rfl,rfl⟩:=hx;obtain ⟨lu,q,r,b,wf⟩:=Pf hB fs.toList Qs xs 0 hQ ho (by simpa using hxl) (by omega) fun i f hf=>hall i f (by simpa using hf)
 refine ⟨lu,q,?_,by rw [hB.agg];omega,wf⟩;rw [hs,←hl] at r;simpa using r
theorem vM {t:TypeId} {v:Value} {d:DataW H} {ps:List MemPlace} {Q:List AV→Prop} (hv:v.cells= #[v]) (hd:DataW.Trod enc P w 0 (fun _=>true) true t v d ps) (hR:∀n,xR enc P w bk n t Q):
  ∃a,Q [a]∧rep (IM w) a v∧a.bulk≤bk d∧a.wf:=by
 obtain ⟨n,hn⟩:=hd;obtain ⟨lu,q,r,b,wf⟩:=hR n _ _ _ hn;rw [hv] at r;have hl:=r.length;cases lu with
 |nil=>simp at hl
 |cons a l=>
  cases l with
  |nil=>
   refine ⟨a,q,?_,by simpa [kA] using b,wf.1⟩;have:=r.1;rw [bF] at this;obtain ⟨u,us,e,h1,_⟩:=this;simp at e;rw [e.1];exact h1
  |cons b l=>simp at hl
end
theorem jZ {P:Program} {H:Nat→Hint} {dg:dm} {q:Prop} {B:Mu} (hok:yE P=true) (hblk:∀f fn c,P.funcs[f]? =some fn→fn.body=some c→iq q B P (H f) fn.ntmps c) (iw:eF q B P dg) {f:Nat} {lu:List AV} {us:List Value} {W:World} (hB:B.le (IM W)) (qV:bF (IM W) lu us)
  (hrun:run P H dg f (lu.map .pv) []=some (.bool true,[])):Calls P f us.toArray W fun e W'=>e= .returned (.bool true)∧Below W.heap.size W W':=by
 have hs:∀{lu:List AV} {us:List Value},bF (IM W) lu us→eD (IM W) (fun _=> .bool false) (lu.map .pv) us:=by
  intro lu
  induction lu with
  |nil=>intro us h;rw [bF] at h;subst h;rfl
  |cons a l ih=>intro us h;rw [bF] at h;obtain ⟨u,us',rfl,h1,h2⟩:=h;exact ⟨u,us',rfl,h1,ih h2⟩
 have:=(EE hok hblk iw f _ [] _ [] hrun W (IM W) (fun _=> .bool false) us hB (UR W) (fun id o h=>by cases h) (fun i j oi oj h=>by cases h) (hs qV)).2;refine this.mono ?_
 rintro e W' ⟨v,μ',loc',rfl,hp⟩
 have hv:=hp.pure rfl;rw [rep] at hv;subst hv;exact ⟨rfl,AX hp⟩
theorem trodAll_below {Hh:Type} {enc:TypeId×Value→Hh} {P:Program} (hl:laidOutB P=true) {W W':World} (hb:Below W.heap.size W W'):∀{ts:List TypeId} {vs:List Value} {ds:List (DataW Hh)} {ps:List MemPlace},(∀t∈ts,P.readableRec t=true∧t<P.types.size)→
  (∀x∈ps,x.block<W.heap.size)→DataW.TrodAll enc P W 0 (fun _=>true) true ts vs ds ps→DataW.TrodAll enc P W' 0 (fun b=>decide (b<W.heap.size)) true ts vs ds ps
 |[],[],[],_,_,_,h=>h
 |[],[],_::_,_,_,_,h=>h.elim
 |[],_::_,_,_,_,_,h=>by cases h
 |_::_,[],_,_,_,_,h=>by cases h
 |_::_,_::_,[],_,_,_,h=>h.elim
 |t::ts,v::vs,d::ds,ps,hr,hlt,h=>by
  obtain ⟨p,q,h1,h2,rfl⟩:=h;exact ⟨p,q,Below.trod hl (hr t (by simp)).1 (hr t (by simp)).2 h1 hb (fun x hx=>hlt x (by simp [hx])),trodAll_below hl hb (fun t ht=>hr t (by simp [ht])) (fun x hx=>hlt x (by simp [hx])) h2,rfl⟩
theorem trodAll_length {Hh:Type} {enc:TypeId×Value→Hh} {P:Program} {W:World}:∀{ts:List TypeId} {vs:List Value} {ds:List (DataW Hh)} {ps:List MemPlace},DataW.TrodAll enc P W 0 (fun _=>true) true ts vs ds ps→ds.length=ts.length
 |[],[],[],_,_=>rfl
 |[],[],_::_,_,h=>h.elim
 |[],_::_,_,_,h=>by cases h
 |_::_,[],_,_,h=>by cases h
 |_::_,_::_,[],_,h=>h.elim
 |t::ts,v::vs,d::ds,ps,h=>by
  obtain ⟨p,q,h1,h2,rfl⟩:=h;simp [trodAll_length h2]
theorem lE {Hh:Type} {enc:TypeId×Value→Hh} {P:Program} {fn:Func} {s:ChangeSpec} {tb:TypeId} {W W':World} {args:Array Value} {ds gs:List (DataW Hh)} {before:List MemPlace} {apart fresh handsOn:Bool}
  (hl:laidOutB P=true) (hpar:fn.params.toList.all (fun t=>P.readableRec t&&decide (t<P.types.size))=true) (hvars:s.vars=[]) (hres:fn.resultTypes= #[tb]) (htb:P.underlying tb=some .bool)
  (hfn:∀ds:List (DataW Hh),ds.length=fn.params.size→s.fn Hh ds={ results:=[.lit (.bool true)],args:=ds })
  (hW:DataW.Whole enc P fn.params.toList s.vars apart W args.toList ds gs before) (hb:Below W.heap.size W W'):
  s.post enc P fn apart fresh handsOn false W args (.bool true) W':=by
 have hlt:=hW.lt;have KC:=hW;obtain ⟨p,q,hA,hV,rfl,_,_⟩:=hW;rw [hvars] at hV;obtain ⟨rfl,rfl⟩:gs=[]∧q=[]:=by
  cases gs with
  |nil=>exact ⟨rfl,hV⟩
  |cons g gs=>exact hV.elim
 have hlen:=trodAll_length hA;have e:=hfn ds (by rw [hlen,Array.length_toList]);refine ⟨ds,[],p++[],[],p,[],KC,?_,?_,?_,hb.frame _,fun h=>by cases h⟩
 ·rw [List.append_nil,e,hres]
  exact trodAll_cons_mk (shut_bool htb _) trodAll_mk0
 ·rw [List.append_nil,e]
  refine trodAll_below hl hb (fun t ht=> ?_) (fun x hx=>hlt x (by simp [hx])) hA;have:=List.all_eq_true.1 hpar t ht;simp only [Bool.and_eq_true,decide_eq_true_eq] at this;exact this
 ·rw [List.append_nil,e,hvars]
  rfl
end Go.AM
