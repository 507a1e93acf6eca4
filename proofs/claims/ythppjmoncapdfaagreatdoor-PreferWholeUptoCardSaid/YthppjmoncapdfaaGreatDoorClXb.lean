/- READING. -/
import Derived.Test.YthppjmoncapdfaaGreatDoorAmI
import Derived.Deep.Slices
import Derived.OpenShut
import Derived.Carry
import Derived.ProofKit
import Derived.Test.YthppjmoncapdfaaGreatDoorClT
import Derived.Test.YthppjmoncapdfaaGreatDoorRows
set_option linter.all false
namespace Go.AM
open Go.RowKit Go.ChangeShapes Go.WideShapes Go.ChangeAt
mutual
def AV.bulk:AV→Nat
 | .str s=>s.length+1
 | .eH _ xs=>zb xs+1
 | .agg cs=>nh cs
 | .bool _=>1
 | .int _ _=>1
 | .fn _ _=>1
 | .mu cs=>nh cs
 | .ref _=>1
 | .mp _ _=>1
 | .self _=>1
 | .DZ=>1
 | .rK=>1
 | .hole=>1
def nh:List AV→Nat
 |[]=>0
 |a::l=>AV.bulk a+nh l
def zb:List (List AV)→Nat
 |[]=>0
 |c::l=>nh c+zb l
end
mutual
def AV.wf:AV→Prop
 | .str s=>s.length≤maxLen
 | .eH _ xs=>wfR xs
 | .agg cs=>UR cs
 | .bool _=>True
 | .int k n=>(Lit.int k n).wf=true
 | .fn _ _=>True
 | .mu cs=>UR cs
 | .ref _=>True
 | .mp _ _=>True
 | .self _=>True
 | .DZ=>True
 | .rK=>True
 | .hole=>True
def UR:List AV→Prop
 |[]=>True
 |a::l=>AV.wf a∧UR l
def wfR:List (List AV)→Prop
 |[]=>True
 |c::l=>UR c∧wfR l
end
theorem Mi (a b:List AV):nh (a++b)=nh a+nh b:=by
 induction a with
 |nil=>simp [nh]
 |cons x a ih=>simp only [ff,nh,ih];omega
theorem US {a b:List AV}:UR (a++b)↔UR a∧UR b:=by
 induction a with
 |nil=>simp [UR]
 |cons x a ih=>simp only [ff,UR,ih,and_assoc]
theorem wfR_all {l:List (List AV)} (h:∀c∈l,UR c):wfR l:=by
 induction l with
 |nil=>trivial
 |cons c l ih=>exact ⟨h c (by simp),ih fun x hx=>h x (by simp [hx])⟩
theorem Xg {l:List (List AV)} {c:List AV} (hc:c∈l):nh c≤zb l:=by
 induction l with
 |nil=>cases hc
 |cons x l ih=>
  simp only [zb];rcases aD.1 hc with rfl|hc
  ·omega
  ·have:=ih hc;omega
structure uT {H:Type} (bk:DataW H→Nat) (SC:List (DataW H)→Nat):Prop where
 str:∀l,bk (.lit (.string l))=l.length+1
 lit:∀l,1≤bk (.lit l)
 nil:1≤bk .nil
 slice:∀e s,bk (.slice e s)=SC e+SC s+1
 agg:∀p,bk (.agg p)=SC p+1
 nilA:SC []=0
 ZD:∀d r,SC (d::r)=bk d+SC r
def V2 (w:World):Mu:=fun b j=>EH w b j
theorem pub_muW (w:World):HW (V2 w) w:=fun _ _ _ h=>h
section
variable {H:Type} {enc:TypeId×Value→H} {P:Program} {w:World} {bk:DataW H→Nat} {SC:List (DataW H)→Nat}
def CK (enc:TypeId×Value→H) (P:Program) (w:World) (bk:DataW H→Nat) (n:Nat) (t:TypeId) (Q:List AV→Prop):Prop:=
 ∀cs d ps,DataW.trod enc P w 0 (fun _=>true) true n t cs=some (d,ps)→∃r7,Q r7∧ku (V2 w) r7 cs∧nh r7≤bk d∧UR r7
theorem CK.zero {t:TypeId} {Q:List AV→Prop}:CK enc P w bk 0 t Q:=fun cs d ps h=>by simp [DataW.trod] at h
theorem CK.mono {n:Nat} {t:TypeId} {Q Q':List AV→Prop} (h:CK enc P w bk n t Q) (hq:∀a,Q a→Q' a):CK enc P w bk n t Q':=fun cs d ps hd=>
 let ⟨a,h1,h2⟩:=h cs d ps hd;⟨a,hq a h1,h2⟩
theorem Ut (hB:uT bk SC) {n:Nat} {t:TypeId} {k:IntKind} (ht:P.underlying t=some (.int k)):CK enc P w bk n t fun r7=>∃x,r7=bX k x:=by
 intro cs d ps h;obtain ⟨x,rfl,hx,hw⟩:=DataW.trod_int ht h;simp only [br] at hx;obtain ⟨rfl,rfl⟩:=hx;refine ⟨bX k x,⟨x,rfl⟩,⟨bY (by simp [rep]) ef,by simp [Value.oneCell']⟩,?_,?_⟩
 ·simp only [bX,nh,AV.bulk];exact hB.lit _
 ·exact ⟨hw,trivial⟩
theorem NK (hB:uT bk SC) {n:Nat} {t:TypeId} (ht:P.underlying t=some .string):CK enc P w bk n t fun r7=>∃x,r7=jG x:=by
 intro cs d ps h;obtain ⟨s,rfl,hx,hs⟩:=DataW.trod_string ht h;simp only [br] at hx;obtain ⟨rfl,rfl⟩:=hx;refine ⟨jG s.data.toList,⟨_,rfl⟩,⟨bY (by simp [rep]) ef,by simp [Value.oneCell']⟩,?_,?_⟩
 ·simp only [jG,nh,AV.bulk,hB.str];omega
 ·refine ⟨?_,trivial⟩
  have:s.data.toList.length=s.size:=by rw [zI];rfl
  simp only [AV.wf];omega
theorem K5 {μ:Mu} {sz b:Nat}:∀{xs:List (List AV)} {off:Nat},(∀i x,xs[i]? =some x→∃vs,ku μ x vs∧vs.length=sz∧∀j u,vs[j]? =some u→μ b (off+i *sz+j)=some u)→kS μ sz b xs off:=by
 intro xs
 induction xs with
 |nil=>intro off _;simp [kS]
 |cons x xs ih=>
  intro off h;rw [kS];obtain ⟨vs,h1,h2,h3⟩:=h 0 x rfl;refine ⟨⟨vs,h1.1,h1.2,h2,fun j u hu=>by have:=h3 j u hu;simpa using this⟩,ih fun i y hy=> ?_⟩;obtain ⟨us,k1,k2,k3⟩:=h (i+1) y (by simpa using hy);refine ⟨us,k1,k2,fun j u hu=> ?_⟩;have:=k3 j u hu
  rwa [show off+(i+1) *sz+j=off+sz+i *sz+j from by rw [jl];omega] at this
theorem Zr (hB:uT bk SC):∀(xs:List (List AV)) (ds:List (DataW H)),xs.length=ds.length→(∀(i:Nat) (x:List AV) (d:DataW H),xs[i]? =some x→ds[i]? =some d→nh x≤bk d)→zb xs≤SC ds:=by
 intro xs
 induction xs with
 |nil=>intro ds _ _;simp [zb]
 |cons x xs ih=>
  intro ds hl h;cases ds with
  |nil=>simp at hl
  |cons d ds=>
   rw [hB.ZD];have h0:=h 0 x d rfl rfl;have:=ih ds (by simpa using hl) fun i y e hy he=>h (i+1) y e (by simpa using hy) (by simpa using he)
   simp only [zb];omega
theorem JG (hB:uT bk SC) {n:Nat} {t e:TypeId} {sz:Nat} (ht:P.underlying t=some (.slice e)) (hc:P.cellsOf e=sz) (hpos:0<sz) {Q:List AV→Prop} (he:CK enc P w bk n e Q):
  CK enc P w bk (n+1) t fun r7=>∃xs,r7=[.eH sz xs]∧∀x∈xs,Q x:=by
 intro cs d ps h;rcases DataW.trod_slice ht h with ⟨rfl,hx⟩|⟨a,len,cap,elems,rest,n',hn,rfl,hx,hb,hl,hm,hlen,hel,_,_⟩
 ·simp only [br] at hx
  obtain ⟨rfl,rfl⟩:=hx;refine ⟨[.eH sz []],⟨[],rfl,by simp⟩,⟨bY ?_ ef,by simp [Value.oneCell']⟩,?_,?_⟩
  ·rw [rep];exact ⟨none,0,rfl,aS _,by simp [maxLen], .inl rfl⟩
  ·simp only [nh,AV.bulk,zb];exact hB.nil
  ·simp [UR,AV.wf,wfR]
 ·obtain rfl:n=n':=by omega
  simp only [br] at hx;obtain ⟨rfl,rfl⟩:=hx;have each:∀i,i<len→∃av:List AV,Q av∧∃cs',w.cells? 0 (a.add (i *sz)) sz=some cs'∧ku (V2 w) av cs'∧(∀x,elems[i]? =some x→nh av≤bk x.1)∧UR av:=by
   intro i hi;have h1:=hel i hi;rw [hc] at h1;obtain ⟨x,hx⟩:∃x,elems[i]? =some x:=⟨elems[i]'(by omega),aH (by omega)⟩
   rw [hx] at h1;obtain ⟨cs',h2,h3⟩:=dw.1 h1;obtain ⟨av,k1,k2,k3,k4⟩:=he cs' x.1 x.2 h3;exact ⟨av,k1,cs',h2,k2,fun y hy=>by rw [hx] at hy;injection hy with hy;subst hy;exact k3,k4⟩
  obtain ⟨f,hf⟩:=Deep.choose_lt each;have og:∀i x,((List.range len).map f)[i]? =some x→i<len∧x=f i:=by
   intro i x hx;simp only [cZ,bS] at hx;obtain ⟨j,hj,rfl⟩:=hx;obtain ⟨h1,h2⟩:=bD.1 hj;simp at h1 h2;subst h2;exact ⟨h1,rfl⟩
  have hmem:∀x∈(List.range len).map f,∃i,i<len∧x=f i:=by
   intro x hx;simp only [aB,eT] at hx;obtain ⟨i,hi,rfl⟩:=hx;exact ⟨i,hi,rfl⟩
  refine ⟨[.eH sz ((List.range len).map f)],⟨_,rfl,fun x hx=> ?_⟩,⟨bY ?_ ef,by simp [Value.oneCell']⟩,?_,?_⟩
  ·obtain ⟨i,hi,rfl⟩:=hmem x hx;exact (hf i hi).1
  ·rw [rep]
   refine ⟨some a,cap,by simp,by simpa using hl,hm,?_⟩;cases len with
   |zero=>exact .inl (by simp)
   |succ len=>
    right
    have hspot:a.spot=none:=by
     obtain ⟨_,cs',h2,_⟩:=hf 0 (by omega);simp only [World.cells?,dh,fN] at h2;have h3:=mapM_some_get h2 0 0 (by simp [hpos]);have h4:cs'[0]? ≠none:=by
      have:=xN h2;simp at this;intro hnone;rw [FM] at hnone;omega
     rw [←h3] at h4;simp only [Addr.add,vG,fN] at h4;cases hsp:a.spot with
     |none=>rfl
     |some q=>
      exfalso;apply h4;simp only [World.cell?,hsp];split<;>simp
    obtain ⟨b,off,sp⟩:=a;simp only at hspot;subst hspot;refine ⟨b,off,rfl,K5 fun i x hx=> ?_⟩;obtain ⟨hi,rfl⟩:=og i x hx;obtain ⟨_,cs',h2,k2,_⟩:=hf i hi;simp only [World.cells?,dh,fN] at h2;refine ⟨cs',k2,by simpa using xN h2,fun j u hu=> ?_⟩;have hj:j<sz:=by
     have:=xN h2;simp at this;have:=(bD.1 hu).1;omega
    have h3:=mapM_some_get h2 j j (by simp [hj]);rw [hu,Deep.add_add] at h3;unfold V2;have e:(⟨b,off,none⟩:Addr).add (i *sz+j)=⟨b,off+i *sz+j,none⟩:=by
     unfold Addr.add;split
     ·rename_i h0;rw [kB,h0];rfl
     ·simp [kB]
    rw [e] at h3;exact tE h3 (k2.2 u (aT hu))
  ·simp only [nh,AV.bulk,hB.slice]
   have:=Zr hB ((List.range len).map f) (elems.map (·.1)) (by simp [hlen]) fun i x d hx hd=>by
    obtain ⟨hi,rfl⟩:=og i x hx;simp only [cZ,bS] at hd;obtain ⟨y,hy,rfl⟩:=hd;obtain ⟨_,_,_,_,k,_⟩:=hf i hi;exact k y hy
   omega
  ·refine ⟨wfR_all fun x hx=> ?_,trivial⟩
   obtain ⟨i,hi,rfl⟩:=hmem x hx;obtain ⟨_,_,_,_,_,k⟩:=hf i hi;exact k
def Cat:List (List AV→Prop)→List AV→Prop
 |[],r7=>r7=[]
 |Q::Qs,r7=>∃a b,r7=a++b∧Q a∧Cat Qs b
def Nr (P:Program):Nat→List Field→Bool
 |_,[]=>true
 |off,f::l=>Nat.beq f.offset off&&Nr P (off+P.cellsOf f.type) l
def UG (P:Program):List Field→Nat
 |[]=>0
 |f::l=>P.cellsOf f.type+UG P l
def YU (enc:TypeId×Value→H) (P:Program) (w:World) (bk:DataW H→Nat) (n:Nat):List Field→List (List AV→Prop)→Prop
 |[],[]=>True
 |f::l,Q::Qs=>CK enc P w bk n f.type Q∧YU enc P w bk n l Qs
 |_,_=>False
theorem Yq (hB:uT bk SC) {n:Nat} {cs:List Value}:∀(fl:List Field) (Qs:List (List AV→Prop)) (xs:List (DataW H×List MemPlace)) (off:Nat),YU enc P w bk n fl Qs→Nr P off fl=true→xs.length=fl.length→off+UG P fl≤cs.length→
  (∀(i:Nat) (f:Field),fl[i]? =some f→DataW.trod enc P w 0 (fun _=>true) true n f.type ((cs.drop f.offset).take (P.cellsOf f.type))=xs[i]?)→
  ∃r7,Cat Qs r7∧ku (V2 w) r7 ((cs.drop off).take (UG P fl))∧nh r7≤SC (xs.map (·.1))∧UR r7:=by
 intro fl
 induction fl with
 |nil=>
  intro Qs xs off hQ _ hl _ _;cases Qs with
  |nil=>exact ⟨[],rfl,⟨by simp [UG,bV],by simp [UG]⟩,by simp [nh],trivial⟩
  |cons Q Qs=>exact hQ.elim
 |cons f fl ih=>
  intro Qs xs off hQ ho hl hle hx;cases Qs with
  |nil=>exact hQ.elim
  |cons Q Qs=>
   cases xs with
   |nil=>simp at hl
   |cons x xs=>
    simp only [Nr,aF] at ho;have hoff:=beq_iff.1 ho.1;simp only [UG] at hle⊢;have h0:=hx 0 f rfl;rw [hoff] at h0;obtain ⟨a0,q0,r0,b0,w0⟩:=hQ.1 _ x.1 x.2 h0;obtain ⟨a1,q1,r1,b1,w1⟩:=ih Qs xs (off+P.cellsOf f.type) hQ.2 ho.2 (by simpa using hl) (by omega) fun i g hg=>hx (i+1) g (by simpa using hg)
    refine ⟨a0++a1,⟨a0,a1,rfl,q0,q1⟩,?_,?_,US.2 ⟨w0,w1⟩⟩
    ·rw [List.take_add,ry]
     exact r0.append r1
    ·rw [Mi,aP,hB.ZD];omega
theorem xu (hB:uT bk SC) {n:Nat} {t:TypeId} {fs:Array Field} {Qs:List (List AV→Prop)} (ht:P.underlying t=some (.struct fs)) (ho:Nr P 0 fs.toList=true) (hs:UG P fs.toList=P.cellsOf t)
  (hQ:YU enc P w bk n fs.toList Qs):CK enc P w bk (n+1) t (Cat Qs):=by
 intro cs d ps h;obtain ⟨xs,n',hn,hx,hl,hxl,hall⟩:=DataW.trod_struct ht h;obtain rfl:n=n':=by omega
 simp only [br] at hx;obtain ⟨rfl,rfl⟩:=hx;obtain ⟨r7,q,r,b,wf⟩:=Yq hB fs.toList Qs xs 0 hQ ho (by simpa using hxl) (by omega) fun i f hf=>hall i f (by simpa using hf)
 refine ⟨r7,q,?_,by rw [hB.agg];omega,wf⟩;rw [hs,←hl] at r;simpa using r
theorem arg_agg {t:TypeId} {fs:Array Field} {v:Value} {d:DataW H} {ps:List MemPlace} {Q:List AV→Prop} {NJ:Reach} {base:Nat} (ht:P.underlying t=some (.struct fs)) (hok:Value.okWide P w NJ base t v)
  (hd:DataW.Trod enc P w 0 (fun _=>true) true t v d ps) (hR:∀n,CK enc P w bk n t Q):∃r7,Q r7∧rep (V2 w) (.agg r7) v∧nh r7≤bk d∧UR r7:=by
 obtain ⟨cs,rfl,_⟩:=WideShapes.okWide_struct ht hok;obtain ⟨n,hn⟩:=hd;obtain ⟨r7,q,r,b,wf⟩:=hR n _ _ _ hn;refine ⟨r7,q,?_,b,wf⟩;rw [rep];exact ⟨cs.toList,by simp,by simpa [Value.cells] using r.1,by simpa [Value.cells] using r.2⟩
theorem arg_one {t:TypeId} {v:Value} {d:DataW H} {ps:List MemPlace} {Q:List AV→Prop} (hv:v.cells= #[v]) (hd:DataW.Trod enc P w 0 (fun _=>true) true t v d ps) (hR:∀n,CK enc P w bk n t Q):
  ∃a,Q [a]∧rep (V2 w) a v∧a.bulk≤bk d∧a.wf:=by
 obtain ⟨n,hn⟩:=hd;obtain ⟨r7,q,r,b,wf⟩:=hR n _ _ _ hn;rw [hv] at r;have hl:=r.length;cases r7 with
 |nil=>simp at hl
 |cons a l=>
  cases l with
  |nil=>
   refine ⟨a,q,?_,by simpa [nh] using b,wf.1⟩;have:=r.1;rw [bV] at this;obtain ⟨u,us,e,h1,_⟩:=this;simp at e;rw [e.1];exact h1
  |cons b l=>simp at hl
end
theorem X1 {P:Program} {H:Nat→Hint} {fk:dQ} {q:Qp} {B:Mu} (hok:Cw P=true) (hblk:∀f fn c,P.funcs[f]? =some fn→fn.body=some c→mW q B P (H f) fn.ntmps c) (ou:ga q B P fk) {f:Nat} {r7:List AV} {us:List Value} {W:World} (hB:B.le (V2 W)) (yH:bV (V2 W) r7 us)
  (hrun:run P H fk f (r7.map .pv) []=some (.bool true,[])):Calls P f us.toArray W fun e W'=>e= .returned (.bool true)∧Below W.heap.size W W':=by
 have hs:∀{r7:List AV} {us:List Value},bV (V2 W) r7 us→iQ (V2 W) (fun _=> .bool false) (r7.map .pv) us:=by
  intro r7
  induction r7 with
  |nil=>intro us h;rw [bV] at h;subst h;rfl
  |cons a l ih=>intro us h;rw [bV] at h;obtain ⟨u,us',rfl,h1,h2⟩:=h;exact ⟨u,us',rfl,h1,ih h2⟩
 have:=(ga.noY (Fp hok hblk ou f _ [] _ [] hrun W (V2 W) (fun _=> .bool false) us hB (pub_muW W) (fun id o h=>by cases h) (fun i j oi oj h=>by cases h) (hs yH)) fun xs=>by simp [find]).2;refine this.mono ?_
 rintro e W' ⟨v,μ',loc',rfl,hp⟩
 have hv:=hp.pure rfl;rw [rep] at hv;subst hv;exact ⟨rfl,Dr hp⟩
theorem BU {Hh:Type} {enc:TypeId×Value→Hh} {P:Program} (hl:laidOutB P=true) {W W':World} (hb:Below W.heap.size W W'):∀{ts:List TypeId} {vs:List Value} {ds:List (DataW Hh)} {ps:List MemPlace},(∀t∈ts,P.readableRec t=true∧t<P.types.size)→
  (∀x∈ps,x.block<W.heap.size)→DataW.TrodAll enc P W 0 (fun _=>true) true ts vs ds ps→DataW.TrodAll enc P W' 0 (fun b=>decide (b<W.heap.size)) true ts vs ds ps
 |[],[],[],_,_,_,h=>h
 |[],[],_::_,_,_,_,h=>h.elim
 |[],_::_,_,_,_,_,h=>by cases h
 |_::_,[],_,_,_,_,h=>by cases h
 |_::_,_::_,[],_,_,_,h=>h.elim
 |t::ts,v::vs,d::ds,ps,hr,hlt,h=>by
  obtain ⟨p,q,h1,h2,rfl⟩:=h;exact ⟨p,q,Below.trod hl (hr t (by simp)).1 (hr t (by simp)).2 h1 hb (fun x hx=>hlt x (by simp [hx])),BU hl hb (fun t ht=>hr t (by simp [ht])) (fun x hx=>hlt x (by simp [hx])) h2,rfl⟩
theorem AK {Hh:Type} {enc:TypeId×Value→Hh} {P:Program} {W:World}:∀{ts:List TypeId} {vs:List Value} {ds:List (DataW Hh)} {ps:List MemPlace},DataW.TrodAll enc P W 0 (fun _=>true) true ts vs ds ps→ds.length=ts.length
 |[],[],[],_,_=>rfl
 |[],[],_::_,_,h=>h.elim
 |[],_::_,_,_,h=>by cases h
 |_::_,[],_,_,h=>by cases h
 |_::_,_::_,[],_,h=>h.elim
 |t::ts,v::vs,d::ds,ps,h=>by
  obtain ⟨p,q,h1,h2,rfl⟩:=h;simp [AK h2]
theorem Yj {Hh:Type} {enc:TypeId×Value→Hh} {P:Program} {fn:Func} {s:ChangeSpec} {tb:TypeId} {W W':World} {args:Array Value} {ds gs:List (DataW Hh)} {before:List MemPlace} {apart fresh handsOn:Bool}
  (hl:laidOutB P=true) (hpar:fn.params.toList.all (fun t=>P.readableRec t&&decide (t<P.types.size))=true) (hvars:s.vars=[]) (hres:fn.resultTypes= #[tb]) (htb:P.underlying tb=some .bool)
  (hfn:∀ds:List (DataW Hh),ds.length=fn.params.size→s.fn Hh ds={ results:=[.lit (.bool true)],args:=ds })
  (hW:DataW.Whole enc P fn.params.toList s.vars apart W args.toList ds gs before) (hb:Below W.heap.size W W'):
  s.post enc P fn apart fresh handsOn false W args (.bool true) W':=by
 have hlt:=hW.lt;have hW':=hW;obtain ⟨p,q,hA,hV,rfl,_,_⟩:=hW;rw [hvars] at hV;obtain ⟨rfl,rfl⟩:gs=[]∧q=[]:=by
  cases gs with
  |nil=>exact ⟨rfl,hV⟩
  |cons g gs=>exact hV.elim
 have hlen:=AK hA;have e:=hfn ds (by rw [hlen,zI]);refine ⟨ds,[],p++[],[],p,[],hW',?_,?_,?_,hb.frame _,fun h=>by cases h⟩
 ·rw [eU,e,hres]
  exact trodAll_cons_mk (shut_bool htb _) trodAll_mk0
 ·rw [eU,e]
  refine BU hl hb (fun t ht=> ?_) (fun x hx=>hlt x (by simp [hx])) hA;have:=cg.1 hpar t ht;simp only [aF,iZ] at this;exact this
 ·rw [eU,e,hvars]
  rfl
end Go.AM
set_option maxRecDepth 100000
namespace Go.Proofs.YthppjmoncapdfaaGreatDoor.cl
open Go Go.AM Go.RowKit Go.ChangeShapes Go.WideShapes Go.ChangeAt
theorem Cc {T:Type} {en:T→List AV}:∀{xs:List (List AV)},(∀x∈xs,∃y:T,x=en y)→∃l:List T,xs=l.map en:=by
 intro xs
 induction xs with
 |nil=>intro _;exact ⟨[],rfl⟩
 |cons x xs ih=>
  intro h;obtain ⟨y,rfl⟩:=h x (by simp);obtain ⟨l,rfl⟩:=ih fun z hz=>h z (by simp [hz])
  exact ⟨y::l,rfl⟩
section
variable {H:Type} {enc:TypeId×Value→H} {w:World}
theorem uV:uT (H:=H) Rows.uptoBulk Rows.uptoBulkAll where
 str:=fun _=>rfl
 lit:=fun l=>by cases l<;>simp [Rows.uptoBulk]
 nil:=by simp [Rows.uptoBulk]
 slice:=fun _ _=>by simp [Rows.uptoBulk]
 agg:=fun _=>by simp [Rows.uptoBulk]
 nilA:=by simp [Rows.uptoBulkAll]
 ZD:=fun _ _=>by simp [Rows.uptoBulkAll]
theorem rd54 (n:Nat):CK enc P w Rows.uptoBulk n 54 fun r7=>∃x:cF,r7=x.enc:=by
 cases n with
 |zero=>exact CK.zero
 |succ n=>
  refine (xu uV (Qs:=[fun a=>∃x,a=bX .i64 x,fun a=>∃x,a=bX .i64 x]) Tryz.underlying54 (by kernel_rfl) (by kernel_rfl) ?_).mono ?_
  ·exact ⟨Ut uV Tryz.underlying3,Ut uV Tryz.underlying3,trivial⟩
  ·rintro a ⟨_,_,rfl,⟨x0,rfl⟩,_,_,rfl,⟨x1,rfl⟩,rfl⟩
   exact ⟨⟨x0,x1⟩,rfl⟩
theorem rd50 (n:Nat):CK enc P w Rows.uptoBulk n 50 fun r7=>∃l:List cF,r7=[.eH 2 (l.map cF.enc)]:=by
 cases n with
 |zero=>exact CK.zero
 |succ n=>
  refine (JG uV (sz:=2) Tryz.underlying50 (by kernel_rfl) (by decide) (rd54 n)).mono ?_
  rintro a ⟨xs,rfl,hx⟩
  obtain ⟨l,rfl⟩:=Cc hx;exact ⟨l,rfl⟩
theorem rd52 (n:Nat):CK enc P w Rows.uptoBulk n 52 fun r7=>∃x:Node,r7=x.enc:=by
 cases n with
 |zero=>exact CK.zero
 |succ n=>
  refine (xu uV (Qs:=[fun a=>∃x,a=bX .i64 x,fun a=>∃l:List cF,a=[.eH 2 (l.map cF.enc)]]) Tryz.underlying52 (by kernel_rfl) (by kernel_rfl) ?_).mono ?_
  ·exact ⟨Ut uV Tryz.underlying3,rd50 n,trivial⟩
  ·rintro a ⟨_,_,rfl,⟨x0,rfl⟩,_,_,rfl,⟨x1,rfl⟩,rfl⟩
   exact ⟨⟨x0,x1⟩,rfl⟩
theorem rd22 (n:Nat):CK enc P w Rows.uptoBulk n 22 fun r7=>∃l:List Node,r7=[.eH 2 (l.map Node.enc)]:=by
 cases n with
 |zero=>exact CK.zero
 |succ n=>
  refine (JG uV (sz:=2) Tryz.underlying22 (by kernel_rfl) (by decide) (rd52 n)).mono ?_
  rintro a ⟨xs,rfl,hx⟩
  obtain ⟨l,rfl⟩:=Cc hx;exact ⟨l,rfl⟩
theorem rd24 (n:Nat):CK enc P w Rows.uptoBulk n 24 fun r7=>∃x:FSt,r7=x.enc:=by
 cases n with
 |zero=>exact CK.zero
 |succ n=>
  refine (xu uV (Qs:=[fun a=>∃l:List Node,a=[.eH 2 (l.map Node.enc)]]) Tryz.underlying24 (by kernel_rfl) (by kernel_rfl) ?_).mono ?_
  ·exact ⟨rd22 n,trivial⟩
  ·rintro a ⟨_,_,rfl,⟨x0,rfl⟩,rfl⟩
   exact ⟨⟨x0⟩,rfl⟩
end
end Go.Proofs.YthppjmoncapdfaaGreatDoor.cl
namespace Go.Proofs.YthppjmoncapdfaaGreatDoor.cl.pf
open Go Go.AM
def oO {α β:Type} (R:α→β→Prop):List α→List β→Prop
 |[],[]=>True
 |a::l,b::m=>R a b∧oO R l m
 |_,_=>False
theorem oO.append {α β:Type} {R:α→β→Prop}:∀{l l':List α} {m m':List β},oO R l m→oO R l' m'→oO R (l++l') (m++m')
 |[],_,[],_,_,h=>h
 |a::l,_,b::m,_,h,k=>⟨h.1,oO.append h.2 k⟩
 |[],_,_::_,_,h,_=>h.elim
 |_::_,_,[],_,h,_=>h.elim
theorem oO.map_eq {α β γ:Type} {R:α→β→Prop} {f:α→γ} {g:β→γ} (hfg:∀a b,R a b→f a=g b):∀{l:List α} {m:List β},oO R l m→l.map f=m.map g
 |[],[],_=>rfl
 |a::l,b::m,h=>by simp only [aP,hfg a b h.1,oO.map_eq hfg h.2]
 |[],_::_,h=>h.elim
 |_::_,[],h=>h.elim
theorem oO.mem_iff {R:Nat→Nat→Prop} (hR:∀{a b a' b'},R a b→R a' b'→(a=a'↔b=b')) {a b:Nat} (hab:R a b):∀{l m:List Nat},oO R l m→(a∈l↔b∈m)
 |[],[],_=>by simp
 |x::l,y::m,h=>by
  rw [aD,aD,oO.mem_iff hR hab h.2,hR hab h.1]
 |[],_::_,h=>h.elim
 |_::_,[],h=>h.elim
theorem oO.idx {R:Nat→Nat→Prop} (hR:∀{a b a' b'},R a b→R a' b'→(a=a'↔b=b')) {a b:Nat} (hab:R a b):∀{l m:List Nat},oO R l m→l.idxOf a=m.idxOf b
 |[],[],_=>rfl
 |x::l,y::m,h=>by
  rw [uh,uh,oO.idx hR hab h.2];have:=hR h.1 hab;by_cases e:x=a
  ·simp [e,this.1 e]
  ·have e':y≠b:=fun h=>e (this.2 h)
   simp [gv.2 e,gv.2 e']
 |[],_::_,h=>h.elim
 |_::_,[],h=>h.elim
theorem zk:∀{N:Nat} {o:List Nat},o.Nodup→(∀x∈o,x<N)→o.length≤N
 |0,o,_,h=>by
  cases o with
  |nil=>simp
  |cons x o=>have:=h x (by simp);omega
 |N+1,o,hn,h=>by
  have h1:(o.filter (· !=N)).Nodup:=hn.filter _;have h2:=zk (N:=N) h1 fun x hx=>by
   rw [cL] at hx;have:=h x hx.1;have:=iI.1 hx.2;omega
  have h3:∀{o:List Nat},o.Nodup→o.length≤(o.filter (· !=N)).length+1:=by
   intro o
   induction o with
   |nil=>simp
   |cons x o ih=>
    intro hn;rw [fE] at hn;by_cases e:x=N
    ·subst e
     have:o.filter (· !=x)=o:=CV.2 fun y hy=>iI.2 fun e=>hn.1 (e▸hy)
     simp [this]
    ·have e':(x !=N)=true:=iI.2 e
     have:=ih hn.2;simp only [fH,e',fN,bg];omega
  have:=h3 hn;omega
structure Gr where
 sc:Nat→List (Int×Nat)
 ty:Nat→Int
def qw (sc:Nat→List (Int×Nat)):Nat→Nat→List Nat→List Nat
 |0,_,o=>o
 |k+1,n,o=>if n∈o then o else (sc n).foldl (fun o p=>qw sc k p.2 o) (o++[n])
abbrev tI (sc:Nat→List (Int×Nat)) (k:Nat) (l:List (Int×Nat)) (o:List Nat):List Nat:=l.foldl (fun o p=>qw sc k p.2 o) o
def Bd (sc:Nat→List (Int×Nat)) (N:Nat):Prop:=∀n,n<N→∀p∈sc n,p.2<N
structure Met (N:Nat) (o:List Nat):Prop where
 nd:o.Nodup
 lt:∀x∈o,x<N
theorem Met.nil {N:Nat}:Met N []:=⟨List.nodup_nil,fun _ h=>by cases h⟩
theorem Met.snoc {N n:Nat} {o:List Nat} (h:Met N o) (hn:n<N) (hno:n∉o):Met N (o++[n]):=
 ⟨by
  rw [jq];exact ⟨h.nd,by simp,fun a ha b hb=>by simp at hb;subst hb;exact fun e=>hno (e▸ha)⟩,fun x hx=>by
  rcases bC.1 hx with hx|hx
  ·exact h.lt x hx
  ·simp at hx;subst hx;exact hn⟩
section
variable {sc:Nat→List (Int×Nat)} {N:Nat}
theorem EC:∀(k n:Nat) (o:List Nat),o<+:qw sc k n o
 |0,_,o=>nw _
 |k+1,n,o=>by
  simp only [qw];split
  ·exact nw _
  ·refine xO (xP o [n]) ?_
   generalize o++[n]=o';generalize sc n=l
   induction l generalizing o' with
   |nil=>exact nw _
   |cons p l ih=>exact xO (EC k p.2 o') (ih _)
theorem AL (k:Nat):∀(l:List (Int×Nat)) (o:List Nat),o<+:tI sc k l o
 |[],o=>nw _
 |p::l,o=>xO (EC k p.2 o) (AL k l _)
theorem Bn (hB:Bd sc N):∀(k n:Nat) (o:List Nat),Met N o→n<N→Met N (qw sc k n o)
 |0,_,o,h,_=>h
 |k+1,n,o,h,hn=>by
  simp only [qw];split
  ·exact h
  ·rename_i hno
   have key:∀(l:List (Int×Nat)) (o:List Nat),(∀p∈l,p.2<N)→Met N o→Met N (tI sc k l o):=by
    intro l
    induction l with
    |nil=>intro o _ h;exact h
    |cons p l ih=>intro o hl h;exact ih _ (fun q hq=>hl q (by simp [hq])) (Bn hB k p.2 o h (hl p (by simp)))
   exact key _ _ (hB n hn) (h.snoc hn hno)
theorem O1 (k n:Nat) (o:List Nat):o.length≤(qw sc k n o).length:=(EC k n o).length_le
theorem R2 (hB:Bd sc N):∀(k n:Nat) (o:List Nat),Met N o→n<N→N<k+o.length→qw sc (k+1) n o=qw sc k n o
 |0,n,o,h,hn,hk=>by have:=zk h.nd h.lt;omega
 |k+1,n,o,h,hn,hk=>by
  rw [qw,qw];split
  ·rfl
  ·rename_i hno
   have key:∀(l:List (Int×Nat)) (o:List Nat),(∀p∈l,p.2<N)→Met N o→N<k+o.length→tI sc (k+1) l o=tI sc k l o:=by
    intro l
    induction l with
    |nil=>intro o _ _ _;rfl
    |cons p l ih=>
     intro o hl h hk;have hp:=hl p (by simp);simp only [tI,fR];rw [R2 hB k p.2 o h hp hk];exact ih _ (fun q hq=>hl q (by simp [hq])) (Bn hB k p.2 o h hp) (by have:=O1 (sc:=sc) k p.2 o;omega)
   exact key _ _ (hB n hn) (h.snoc hn hno) (by simp only [cQ,ij];omega)
theorem KB (hB:Bd sc N) {k n:Nat} {o:List Nat} (h:Met N o) (hn:n<N) (hk:N<k+o.length):∀j,qw sc (k+j) n o=qw sc k n o
 |0=>rfl
 |j+1=>by rw [←kB,R2 hB (k+j) n o h hn (by omega),KB hB h hn hk j]
theorem WT (hB:Bd sc N) {k j n:Nat} {o:List Nat} (h:Met N o) (hn:n<N) (hk:N<k+o.length) (hj:N<j+o.length):qw sc k n o=qw sc j n o:=by
 rcases Nat.le_total k j with hkj|hkj
 ·obtain ⟨d,rfl⟩:=Nat.le.dest hkj;exact (KB hB h hn hk d).symm
 ·obtain ⟨d,rfl⟩:=Nat.le.dest hkj;exact KB hB h hn hj d
theorem y7 (hB:Bd sc N):∀(k n:Nat) (o:List Nat),Met N o→n<N→N<k+o.length→n∈qw sc k n o∧∀x∈qw sc k n o,x∉o→∀p∈sc x,p.2∈qw sc k n o
 |0,n,o,h,hn,hk=>by have:=zk h.nd h.lt;omega
 |k+1,n,o,h,hn,hk=>by
  rw [qw];split
  ·rename_i hno;exact ⟨hno,fun x hx F4=>absurd hx F4⟩
  ·rename_i hno
   have key:∀(l:List (Int×Nat)) (o:List Nat),(∀p∈l,p.2<N)→Met N o→N<k+o.length→(∀p∈l,p.2∈tI sc k l o)∧∀x∈tI sc k l o,x∉o→∀p∈sc x,p.2∈tI sc k l o:=by
    intro l
    induction l with
    |nil=>intro o _ _ _;exact ⟨fun p hp=>by (cases hp),fun x hx F4=>absurd hx F4⟩
    |cons p l ih=>
     intro o hl h hk;have hp:=hl p (by simp);obtain ⟨c1,c2⟩:=y7 hB k p.2 o h hp hk;have hm:=Bn hB k p.2 o h hp;have hlen:=O1 (sc:=sc) k p.2 o;obtain ⟨d1,d2⟩:=ih (qw sc k p.2 o) (fun q hq=>hl q (by simp [hq])) hm (by omega);have hpre:=AL (sc:=sc) k l (qw sc k p.2 o);refine ⟨fun q hq=> ?_,fun x hx F4 q hq=> ?_⟩
     ·rcases aD.1 hq with rfl|hq
      ·exact hpre.subset c1
      ·exact d1 q hq
     ·by_cases hx2:x∈qw sc k p.2 o
      ·exact hpre.subset (c2 x hx2 F4 q hq)
      ·exact d2 x hx hx2 q hq
   obtain ⟨d1,d2⟩:=key (sc n) (o++[n]) (hB n hn) (h.snoc hn hno) (by simp only [cQ,ij];omega);have hpre:=AL (sc:=sc) k (sc n) (o++[n]);refine ⟨hpre.subset (by simp),fun x hx F4 q hq=> ?_⟩;by_cases e:x=n
   ·subst e;exact d1 q hq
   ·exact d2 x hx (by simp [F4,e]) q hq
inductive sN (sc:Nat→List (Int×Nat)) (r:Nat):Nat→Prop where
 |root:sN sc r r
 |step {n:Nat} {p:Int×Nat}:sN sc r n→p∈sc n→sN sc r p.2
theorem WV {r:Nat}:∀(k n:Nat) (o:List Nat),sN sc r n→∀x∈qw sc k n o,x∉o→sN sc r x
 |0,n,o,_,x,hx,F4=>absurd hx F4
 |k+1,n,o,hn,x,hx,F4=>by
  rw [qw] at hx;split at hx
  ·exact absurd hx F4
  ·have key:∀(l:List (Int×Nat)) (o:List Nat),(∀p∈l,sN sc r p.2)→∀x∈tI sc k l o,x∉o→sN sc r x:=by
    intro l
    induction l with
    |nil=>intro o _ x hx F4;exact absurd hx F4
    |cons p l ih=>
     intro o hl x hx F4;by_cases h2:x∈qw sc k p.2 o
     ·exact WV k p.2 o (hl p (by simp)) x h2 F4
     ·exact ih _ (fun q hq=>hl q (by simp [hq])) x hx h2
   by_cases e:x=n
   ·subst e;exact hn
   ·exact key _ _ (fun p hp=>hn.step hp) x hx (by simp [F4,e])
end
def j4 (G:Gr) (N r:Nat):List Nat:=qw G.sc (N+1) r []
def mI (G:Gr) (N r:Nat):FSt:=⟨(j4 G N r).map fun n=>⟨G.ty n,(G.sc n).map fun p=>⟨p.1,((j4 G N r).idxOf p.2:Nat)⟩⟩⟩
section
variable {G:Gr} {N r:Nat}
theorem uG (hB:Bd G.sc N) (hr:r<N):Met N (j4 G N r):=Bn hB _ _ _ Met.nil hr
theorem ack (hB:Bd G.sc N) (hr:r<N):r∈j4 G N r:=(y7 hB (N+1) r [] Met.nil hr (by simp)).1
theorem Aj (hB:Bd G.sc N) (hr:r<N) {x:Nat} (hx:x∈j4 G N r) {p:Int×Nat} (hp:p∈G.sc x):p.2∈j4 G N r:=(y7 hB (N+1) r [] Met.nil hr (by simp)).2 x hx (by simp) p hp
theorem Hv (hB:Bd G.sc N) (hr:r<N) {x:Nat}:x∈j4 G N r↔sN G.sc r x:=
 ⟨fun h=>WV _ _ _ .root x h (by simp),fun h=>by
  induction h with
  |root=>exact ack hB hr
  |step _ hp ih=>exact Aj hB hr ih hp⟩
theorem Ai (hB:Bd G.sc N) (hr:r<N):(j4 G N r)[0]? =some r:=by
 unfold j4;rw [qw];simp only [fF,ez,dU];obtain ⟨t,ht⟩:=AL (sc:=G.sc) N (G.sc r) [r];show (tI G.sc N (G.sc r) [r])[0]? =some r;rw [←ht];rfl
end
theorem WU {s1 s2:Nat→List (Int×Nat)} {R:Nat→Nat→Prop} (hR:∀{a b a' b'},R a b→R a' b'→(a=a'↔b=b'))
  (hs:∀a b,R a b→oO (fun p q=>p.1=q.1∧R p.2 q.2) (s1 a) (s2 b)):∀(k a b:Nat) (o1 o2:List Nat),R a b→oO R o1 o2→oO R (qw s1 k a o1) (qw s2 k b o2)
 |0,a,b,o1,o2,_,ho=>ho
 |k+1,a,b,o1,o2,hab,ho=>by
  rw [qw,qw];have hm:=oO.mem_iff hR hab ho;by_cases h:a∈o1
  ·rw [au h,au (hm.1 h)];exact ho
  ·rw [ak h,ak (fun h'=>h (hm.2 h'))]
   have key:∀(l m:List (Int×Nat)) (o1 o2:List Nat),oO (fun p q=>p.1=q.1∧R p.2 q.2) l m→oO R o1 o2→oO R (tI s1 k l o1) (tI s2 k m o2):=by
    intro l
    induction l with
    |nil=>intro m o1 o2 hl ho;cases m with
     |nil=>exact ho
     |cons q m=>exact hl.elim
    |cons p l ih=>intro m o1 o2 hl ho;cases m with
     |nil=>exact hl.elim
     |cons q m=>exact ih m _ _ hl.2 (WU hR hs k p.2 q.2 o1 o2 hl.1.2 ho)
   exact key _ _ _ _ (hs a b hab) (ho.append ⟨hab,trivial⟩)
theorem Vb {G1 G2:Gr} {N1 N2 r1 r2:Nat} (hB1:Bd G1.sc N1) (hB2:Bd G2.sc N2) (h1:r1<N1) (h2:r2<N2) {R:Nat→Nat→Prop} (hR:∀{a b a' b'},R a b→R a' b'→(a=a'↔b=b'))
  (hs:∀a b,R a b→oO (fun p q=>p.1=q.1∧R p.2 q.2) (G1.sc a) (G2.sc b)) (ht:∀a b,R a b→G1.ty a=G2.ty b) (hr:R r1 r2):mI G1 N1 r1=mI G2 N2 r2:=by
 have e1:j4 G1 N1 r1=qw G1.sc (N1+N2+1) r1 []:=WT hB1 Met.nil h1 (by simp) (by simp;omega);have e2:j4 G2 N2 r2=qw G2.sc (N1+N2+1) r2 []:=WT hB2 Met.nil h2 (by simp) (by simp;omega);have ho:oO R (j4 G1 N1 r1) (j4 G2 N2 r2):=by
  rw [e1,e2];exact WU hR hs _ _ _ _ _ hr trivial
 unfold mI
 congr 1
 refine oO.map_eq (fun a b hab=> ?_) ho;rw [ht a b hab]
 congr 1
 exact oO.map_eq (fun p q hpq=>by rw [hpq.1,oO.idx hR hpq.2 ho]) (hs a b hab)
end Go.Proofs.YthppjmoncapdfaaGreatDoor.cl.pf
namespace Go.Proofs.YthppjmoncapdfaaGreatDoor.cl.pf
open Go Go.AM
def Wu (x:Node):List (Int×Nat):=x.cO.map fun a=>(a.aY,a.To.toNat)
def kX (f:FSt) (n:Nat):List (Int×Nat):=match f.az[n]? with
 |some x=>Wu x
 |none=>[]
def sg (f:FSt) (n:Nat):Int:=match f.az[n]? with
 |some x=>x.eN
 |none=>0
def nY (f:FSt):Gr:=⟨kX f,sg f⟩
def AU (l:List (Int×Nat)):Prop:=l.Pairwise fun p q=>p.1<q.1
theorem AU.Lp {l:List (Int×Nat)} (h:AU l) {f:Int} {a b:Nat} (ha:(f,a)∈l) (hb:(f,b)∈l):a=b:=by
 induction l with
 |nil=>cases ha
 |cons p l ih=>
  have h:=dX.1 h;rcases aD.1 ha with ha|ha<;>rcases aD.1 hb with hb|hb
  ·exact (Prod.mk.inj (ha.trans hb.symm)).2
  ·have:=h.1 _ hb;subst ha;simp at this
  ·have:=h.1 _ ha;subst hb;simp at this
  ·exact ih h.2 ha hb
theorem AU.ext:∀{l m:List (Int×Nat)},AU l→AU m→(∀p,p∈l↔p∈m)→l=m
 |[],[],_,_,_=>rfl
 |[],q::m,_,_,h=>absurd ((h q).2 (by simp)) (by simp)
 |p::l,[],_,_,h=>absurd ((h p).1 (by simp)) (by simp)
 |p::l,q::m,hl,hm,h=>by
  have hl':=dX.1 hl;have hm':=dX.1 hm;have e:p=q:=by
   rcases aD.1 ((h p).1 (by simp)) with e|h1
   ·exact e
   ·rcases aD.1 ((h q).2 (by simp)) with e|h2
    ·exact e.symm
    ·have:=hm'.1 _ h1;have:=hl'.1 _ h2;omega
  subst e;rw [AU.ext hl'.2 hm'.2 fun x=> ?_];constructor
  ·intro hx
   rcases aD.1 ((h x).1 (by simp [hx])) with e|h1
   ·have:=hl'.1 _ hx;subst e;omega
   ·exact h1
  ·intro hx
   rcases aD.1 ((h x).2 (by simp [hx])) with e|h1
   ·have:=hm'.1 _ hx;subst e;omega
   ·exact h1
theorem AU.map {l:List (Int×Nat)} (h:AU l) (g:Nat→Nat):AU (l.map fun p=>(p.1,g p.2)):=by
 unfold AU;rw [iJ];exact h
theorem AU.nil:AU []:=List.Pairwise.nil
structure GO (T F:Nat) (G:Gr) (N:Nat):Prop where
 bd:Bd G.sc N
 Bo:∀n,n<N→AU (G.sc n)
 ft:∀n,n<N→∀p∈G.sc n,0≤p.1∧p.1<(F:Int)
 tp:∀n,n<N→0≤G.ty n∧G.ty n<(T:Int)
theorem sN.lt {sc:Nat→List (Int×Nat)} {N r i:Nat} (hB:Bd sc N) (hr:r<N) (h:sN sc r i):i<N:=by
 induction h with
 |root=>exact hr
 |step _ hp ih=>exact hB _ ih _ hp
theorem Hy {f:FSt} {n:Nat} (h:f.az.length≤n):kX f n=[]:=by
 unfold kX;rw [fc h]
theorem yX {f:FSt} {n:Nat} (h:n<f.az.length):kX f n=Wu f.az[n]:=by
 unfold kX;rw [aH h]
theorem tZ {f:FSt} {n:Nat} (h:n<f.az.length):sg f n=f.az[n].eN:=by
 unfold sg;rw [aH h]
theorem vc:∀{o:List Nat},o.Nodup→∀{i x:Nat},o[i]? =some x→o.idxOf x=i
 |[],_,i,x,h=>by simp at h
 |y::o,hn,0,x,h=>by simp at h;subst h;simp
 |y::o,hn,i+1,x,h=>by
  rw [fE] at hn;rw [oT] at h;have hm:x∈o:=aT h;have:(y==x)=false:=gv.2 fun e=>hn.1 (e▸hm)
  rw [uh,this,vc hn.2 h];rfl
theorem wP:∀{o:List Nat} {x:Nat},x∈o→o[o.idxOf x]? =some x
 |y::o,x,h=>by
  rw [uh];by_cases e:y=x
  ·subst e;simp
  ·rw [gv.2 e]
   show (y::o)[o.idxOf x+1]? =some x;rw [oT];rcases aD.1 h with h|h
   ·exact absurd h.symm e
   ·exact wP h
section
variable {G:Gr} {N r:Nat}
theorem U9 {i x:Nat} (h:(j4 G N r)[i]? =some x):(mI G N r).az[i]? =some ⟨G.ty x,(G.sc x).map fun p=>⟨p.1,((j4 G N r).idxOf p.2:Nat)⟩⟩:=by
 show (List.map _ _)[i]? =_;rw [cZ,h];rfl
theorem B4 {i x:Nat} (h:(j4 G N r)[i]? =some x):kX (mI G N r) i=(G.sc x).map fun p=>(p.1,(j4 G N r).idxOf p.2):=by
 unfold kX;rw [U9 h];simp only [Wu,eO];rfl
theorem Mo {i x:Nat} (h:(j4 G N r)[i]? =some x):sg (mI G N r) i=G.ty x:=by
 unfold sg;rw [U9 h]
theorem IB:(mI G N r).az.length=(j4 G N r).length:=by
 show (List.map _ _).length=_;simp
theorem Iy {i:Nat} (h:i<(mI G N r).az.length):∃x,(j4 G N r)[i]? =some x:=by
 rw [IB] at h;exact ⟨_,aH h⟩
theorem idx_lt {o:List Nat} {x:Nat} (h:x∈o):o.idxOf x<o.length:=List.idxOf_lt_length_of_mem h
theorem oO.E9 {α β:Type} {R:α→β→Prop} {g:α→β}:∀{l:List α},(∀p∈l,R p (g p))→oO R l (l.map g)
 |[],_=>trivial
 |p::l,h=>⟨h p (by simp),oO.E9 fun q hq=>h q (by simp [hq])⟩
variable {T F:Nat} (hG:GO T F G N) (hr:r<N)
include hG hr
theorem SO:Bd (kX (mI G N r)) ((mI G N r).az.length):=by
 intro i hi p hp;obtain ⟨x,hx⟩:=Iy hi;rw [B4 hx] at hp;obtain ⟨q,hq,rfl⟩:=aB.1 hp;rw [IB];exact idx_lt (Aj hG.bd hr (aT hx) hq)
theorem can_go:GO T F (nY (mI G N r)) ((mI G N r).az.length):=by
 have hlt:∀{i x:Nat},(j4 G N r)[i]? =some x→x<N:=fun h=>(uG hG.bd hr).lt _ (aT h)
 refine ⟨SO hG hr,fun i hi=> ?_,fun i hi p hp=> ?_,fun i hi=> ?_⟩<;>obtain ⟨x,hx⟩:=Iy hi
 ·show AU (kX _ i)
  rw [B4 hx];exact (hG.Bo x (hlt hx)).map fun y=>(j4 G N r).idxOf y
 ·have hp:p∈kX (mI G N r) i:=hp
  rw [B4 hx] at hp;obtain ⟨q,hq,rfl⟩:=aB.1 hp;exact hG.ft x (hlt hx) q hq
 ·show 0≤sg _ i∧sg _ i<_
  rw [Mo hx];exact hG.tp x (hlt hx)
theorem SQ:0<(mI G N r).az.length:=by
 have:=aT (Ai hG.bd hr);rw [IB];exact xQ this
theorem can_can:mI (nY (mI G N r)) ((mI G N r).az.length) 0=mI G N r:=by
 have nd:=(uG hG.bd hr).nd;refine (Vb (R:=fun a b=>(j4 G N r)[b]? =some a) hG.bd (SO hG hr) hr (SQ hG hr) (fun {a b a' b'} h h'=> ?_) (fun a b h=> ?_) (fun a b h=> ?_) (Ai hG.bd hr)).symm
 ·constructor
  ·intro e;subst e;rw [←vc nd h,←vc nd h']
  ·intro e;subst e;rw [h] at h';exact eS h'
 ·show oO _ _ (kX _ b)
  rw [B4 h];refine oO.E9 fun p hp=>⟨rfl,?_⟩
  exact wP (Aj hG.bd hr (aT h) hp)
 ·exact (Mo h).symm
end
structure Can (T F:Nat) (f:FSt):Prop where
 ne:0<f.az.length
 go:GO T F (nY f) (f.az.length)
 eq:f=mI (nY f) (f.az.length) 0
theorem SP {T F:Nat} {G:Gr} {N r:Nat} (hG:GO T F G N) (hr:r<N):Can T F (mI G N r):=
 ⟨SQ hG hr,can_go hG hr,(can_can hG hr).symm⟩
theorem nd_all {N:Nat} {o:List Nat} (hn:o.Nodup) (hl:∀x∈o,x<N) (hN:N≤o.length) {i:Nat} (hi:i<N):i∈o:=by
 apply dA;intro h;have h1:(i::o).Nodup:=fE.2 ⟨h,hn⟩;have:=zk h1 (N:=N) fun x hx=>by
  rcases aD.1 hx with rfl|hx
  ·exact hi
  ·exact hl x hx
 simp at this;omega
theorem asc_mem {T F:Nat} {f:FSt} (h:GO T F (nY f) (f.az.length)) (i:Nat):AU (kX f i):=by
 by_cases hi:i<f.az.length
 ·exact h.Bo i hi
 ·rw [Hy (by omega)];exact AU.nil
namespace Can
variable {T F:Nat} {f:FSt} (h:Can T F f)
include h
theorem bd:Bd (kX f) (f.az.length):=h.go.bd
theorem Bo (i:Nat):AU (kX f i):=asc_mem h.go i
theorem met:Met (f.az.length) (j4 (nY f) (f.az.length) 0):=uG h.go.bd h.ne
theorem olen:(j4 (nY f) (f.az.length) 0).length=f.az.length:=by
 have:f.az.length=(mI (nY f) f.az.length 0).az.length:=aI (fun g:FSt=>g.az.length) h.eq;rw [IB] at this;exact this.symm
theorem omem {i:Nat} (hi:i<f.az.length):i∈j4 (nY f) (f.az.length) 0:=nd_all h.met.nd h.met.lt (by rw [h.olen];exact aS _) hi
theorem NJ {i:Nat} (hi:i<f.az.length):sN (kX f) 0 i:=(Hv h.go.bd h.ne).1 (h.omem hi)
theorem Yr {i:Nat} (hi:sN (kX f) 0 i):i<f.az.length:=hi.lt h.bd h.ne
theorem oat {i:Nat} (hi:sN (kX f) 0 i):(j4 (nY f) (f.az.length) 0)[i]? =some i:=by
 induction hi with
 |root=>exact Ai h.go.bd h.ne
 | @step n p hn hp ih=>
  have hp':=hp;have e:kX f n=kX (mI (nY f) (f.az.length) 0) n:=aI (fun g=>kX g n) h.eq;rw [B4 ih] at e;have h2:(p.1,(j4 (nY f) (f.az.length) 0).idxOf p.2)∈kX f n:=by
   rw [e];exact aB.2 ⟨p,hp,rfl⟩
  have h3:=(h.Bo n).Lp (a:=p.2) hp' h2;have hm:p.2∈j4 (nY f) (f.az.length) 0:=h.omem (h.bd n (h.Yr hn) p hp');have:=wP hm;rw [←h3] at this;exact this
theorem ord:j4 (nY f) (f.az.length) 0=List.range (f.az.length):=by
 apply kE;intro i;by_cases hi:i<f.az.length
 ·rw [h.oat (h.NJ hi),oU hi]
 ·rw [fc (by rw [h.olen];omega),fc (by simpa using hi)]
theorem nn {x:Node} (hx:x∈f.az) {a:cF} (ha:a∈x.cO):0≤a.To:=by
 rw [h.eq] at hx;obtain ⟨n,_,rfl⟩:=aB.1 hx;obtain ⟨p,_,rfl⟩:=aB.1 ha;exact xR _
end Can
def Pre (sc:Nat→List (Int×Nat)) (o:List Nat):Prop:=∀i x,o[i]? =some x→0<i→∃j,j<i∧∃y,o[j]? =some y∧∃p∈sc y,p.2=x
theorem Pre.snoc {sc:Nat→List (Int×Nat)} {o:List Nat} {n:Nat} (h:Pre sc o) (hn:o=[]∨∃y∈o,∃p∈sc y,p.2=n):Pre sc (o++[n]):=by
 intro i x hi h0;by_cases hl:i<o.length
 ·rw [di hl] at hi
  obtain ⟨j,hj,y,hy,hp⟩:=h i x hi h0;exact ⟨j,hj,y,by rw [di (by omega)];exact hy,hp⟩
 ·rw [gr (by omega)] at hi
  have:i-o.length=0:=by
   cases e:i-o.length with
   |zero=>rfl
   |succ k=>rw [e] at hi;simp at hi
  rw [this] at hi;simp at hi;subst hi;rcases hn with rfl|⟨y,hy,hp⟩
  ·simp at this;omega
  ·obtain ⟨j,hj⟩:=iq.1 hy
   have:=(bD.1 hj).1;exact ⟨j,by omega,y,by rw [di this];exact hj,hp⟩
theorem R3 {sc:Nat→List (Int×Nat)}:∀(k n:Nat) (o:List Nat),Pre sc o→(o=[]∨∃y∈o,∃p∈sc y,p.2=n)→Pre sc (qw sc k n o)
 |0,_,o,h,_=>h
 |k+1,n,o,h,hn=>by
  rw [qw];split
  ·exact h
  ·have key:∀(l:List (Int×Nat)) (o:List Nat),Pre sc o→n∈o→(∀p∈l,p∈sc n)→Pre sc (tI sc k l o):=by
    intro l
    induction l with
    |nil=>intro o h _ _;exact h
    |cons p l ih=>
     intro o h hno hl;exact ih _ (R3 k p.2 o h (.inr ⟨n,hno,p,hl p (by simp),rfl⟩)) ((EC k p.2 o).subset hno) fun q hq=>hl q (by simp [hq])
   exact key _ _ (h.snoc hn) (by simp) fun p hp=>hp
theorem Can.pred {T F:Nat} {f:FSt} (h:Can T F f) {i:Nat} (h0:0<i) (hi:i<f.az.length):∃j,j<i∧∃p∈kX f j,p.2=i:=by
 have hp:Pre (kX f) (j4 (nY f) (f.az.length) 0):=R3 _ _ _ (fun i x hx=>by simp at hx) (.inl rfl);rw [h.ord] at hp;obtain ⟨j,hj,y,hy,hq⟩:=hp i i (oU hi) h0;rw [oU (by omega)] at hy;cases hy;exact ⟨j,hj,hq⟩
structure TO (T:Nat) (sb:Int→Int→Prop):Prop where
 rl:∀{a b},sb a b→0≤a∧a<(T:Int)
 rr:∀{a b},sb a b→0≤b∧b<(T:Int)
 refl:∀{a},0≤a→a<(T:Int)→sb a a
 trans:∀{a b c},sb a b→sb b c→sb a c
 anti:∀{a b},sb a b→sb b a→a=b
 top:∀{a},0≤a→a<(T:Int)→sb 0 a
def EF (sb:Int→Int→Prop) (G:Gr) (r:Nat) (H:Gr) (s:Nat) (m:Nat→Nat):Prop:=
 m r=s∧∀i,sN G.sc r i→sb (G.ty i) (H.ty (m i))∧∀p∈G.sc i,(p.1,m p.2)∈H.sc (m i)
theorem EF.NJ {sb:Int→Int→Prop} {G H:Gr} {r s:Nat} {m:Nat→Nat} (h:EF sb G r H s m) {i:Nat} (hi:sN G.sc r i):sN H.sc s (m i):=by
 induction hi with
 |root=>rw [h.1];exact .root
 |step hn hp ih=>exact ih.step ((h.2 _ hn).2 _ hp)
theorem EF.comp {s1 s2 s3:Int→Int→Prop} (ht:∀{a b c},s1 a b→s2 b c→s3 a c) {G H K:Gr} {r s t:Nat} {m m':Nat→Nat} (h:EF s1 G r H s m) (h':EF s2 H s K t m'):EF s3 G r K t (fun i=>m' (m i)):=
 ⟨by show m' (m r)=t;rw [h.1,h'.1],fun i hi=>⟨ht (h.2 i hi).1 (h'.2 _ (h.NJ hi)).1,fun p hp=>(h'.2 _ (h.NJ hi)).2 _ ((h.2 i hi).2 p hp)⟩⟩
def Le (sb:Int→Int→Prop) (f g:FSt):Prop:=∃m,EF sb (nY f) 0 (nY g) 0 m
theorem EF.idG {sb:Int→Int→Prop} {G:Gr} {r:Nat} (h:∀i,sN G.sc r i→sb (G.ty i) (G.ty i)):EF sb G r G r id:=⟨rfl,fun i hi=>⟨h i hi,fun p hp=>hp⟩⟩
section
variable {T F:Nat} {sb:Int→Int→Prop} (hT:TO T sb)
include hT
theorem Le.refl {f:FSt} (h:Can T F f):Le sb f f:=⟨id,EF.idG fun i hi=>hT.refl (h.go.tp i (h.Yr hi)).1 (h.go.tp i (h.Yr hi)).2⟩
theorem Le.trans {f g k:FSt} (h:Le sb f g) (h':Le sb g k):Le sb f k:=by
 obtain ⟨m,h⟩:=h;obtain ⟨m',h'⟩:=h';exact ⟨_,EF.comp (s1:=sb) (s2:=sb) (s3:=sb) (fun h h'=>hT.trans h h') h h'⟩
theorem Le.anti {f g:FSt} (hf:Can T F f) (hg:Can T F g) (h:Le sb f g) (h':Le sb g f):f=g:=by
 obtain ⟨m,h⟩:=h;obtain ⟨m',h'⟩:=h';have e1:∀i,sN (kX f) 0 i→m' (m i)=i:=by
  have hh:=EF.comp (s1:=sb) (s2:=sb) (s3:=sb) (fun h h'=>hT.trans h h') h h';intro i hi
  induction hi with
  |root=>exact hh.1
  | @step n p hn hp ih=>
   have h2:=(hh.2 n hn).2 p hp;simp only [ih] at h2;exact ((hf.Bo n).Lp (a:=p.2) hp h2).symm
 have e2:∀i,sN (kX g) 0 i→m (m' i)=i:=by
  have hh:=EF.comp (s1:=sb) (s2:=sb) (s3:=sb) (fun h h'=>hT.trans h h') h' h;intro i hi
  induction hi with
  |root=>exact hh.1
  | @step n p hn hp ih=>
   have h2:=(hh.2 n hn).2 p hp;simp only [ih] at h2;exact ((hg.Bo n).Lp (a:=p.2) hp h2).symm
 rw [hf.eq,hg.eq];refine Vb (R:=fun a b=>sN (kX f) 0 a∧m a=b) hf.bd hg.bd hf.ne hg.ne ?_ ?_ ?_ ⟨.root,h.1⟩
 ·rintro a b a' b' ⟨ha,rfl⟩ ⟨KI,rfl⟩
  constructor
  ·intro e;rw [e]
  ·intro e;rw [←e1 a ha,←e1 a' KI,e]
 ·rintro a b ⟨ha,rfl⟩
  have hm:=h.NJ ha;have e:kX g (m a)=(kX f a).map fun p=>(p.1,m p.2):=by
   refine (AU.ext ((hf.Bo a).map m) (hg.Bo (m a)) fun q=> ?_).symm;constructor
   ·intro hq
    obtain ⟨p,hp,rfl⟩:=aB.1 hq;exact (h.2 a ha).2 p hp
   ·intro hq
    have h2:=(h'.2 _ hm).2 q hq;rw [e1 a ha] at h2;refine aB.2 ⟨_,h2,?_⟩;show (q.1,m (m' q.2))=q;rw [e2 q.2 (hm.step hq)]
  show oO _ (kX f a) (kX g (m a));rw [e];exact oO.E9 fun p hp=>⟨rfl,ha.step hp,rfl⟩
 ·rintro a b ⟨ha,rfl⟩
  have h2:=(h'.2 _ (h.NJ ha)).1;rw [e1 a ha] at h2;exact hT.anti (h.2 a ha).1 h2
end
section
variable {T F:Nat} {G:Gr} {N r:Nat} (hG:GO T F G N) (hr:r<N)
include hG hr
theorem VA {sb:Int→Int→Prop} (hs:∀{a},0≤a→a<(T:Int)→sb a a):EF sb G r (nY (mI G N r)) 0 (fun i=>(j4 G N r).idxOf i):=by
 refine ⟨vc (uG hG.bd hr).nd (Ai hG.bd hr),fun i hi=> ?_⟩;have hm:=(Hv hG.bd hr).2 hi;have:=hG.tp i (hi.lt hG.bd hr);refine ⟨?_,fun p hp=> ?_⟩
 ·show sb _ (sg _ ((j4 G N r).idxOf i))
  rw [Mo (wP hm)];exact hs this.1 this.2
 ·show _∈kX _ ((j4 G N r).idxOf i)
  rw [B4 (wP hm)];exact aB.2 ⟨p,hp,rfl⟩
theorem Va {sb:Int→Int→Prop} (hs:∀{a},0≤a→a<(T:Int)→sb a a):EF sb (nY (mI G N r)) 0 G r (fun i=>(j4 G N r).getD i r):=by
 have h0:=Ai hG.bd hr;refine ⟨by show (j4 G N r).getD 0 r=r;rw [aQ,h0];rfl,fun i hi=> ?_⟩;obtain ⟨x,hx⟩:=Iy (hi.lt (SO hG hr) (SQ hG hr));have hm:=aT hx;have:=hG.tp x ((uG hG.bd hr).lt x hm);have ex:(j4 G N r).getD i r=x:=by rw [aQ,hx];rfl
 refine ⟨?_,fun p hp=> ?_⟩
 ·show sb (sg _ _) (G.ty ((j4 G N r).getD i r))
  rw [Mo hx,ex];exact hs this.1 this.2
 ·have hp:p∈kX (mI G N r) i:=hp
  rw [B4 hx] at hp;obtain ⟨q,hq,rfl⟩:=aB.1 hp;have h2:=wP (Aj hG.bd hr hm hq);show (q.1,(j4 G N r).getD _ r)∈G.sc ((j4 G N r).getD i r);rw [ex,aQ,h2];exact hq
end
end Go.Proofs.YthppjmoncapdfaaGreatDoor.cl.pf
