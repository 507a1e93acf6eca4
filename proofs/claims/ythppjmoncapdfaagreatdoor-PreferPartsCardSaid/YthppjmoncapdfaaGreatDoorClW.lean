/- The block of (*table).features that ranges over a map. -/
import Derived.Test.YthppjmoncapdfaaGreatDoorAmB
import Derived.Test.YthppjmoncapdfaaGreatDoorClT
import Derived.Test.YthppjmoncapdfaaGreatDoorClQb
import Derived.Test.YthppjmoncapdfaaGreatDoorClXb
import Derived.Test.YthppjmoncapdfaaGreatDoorRows
import Derived.Test.YthppjmoncapdfaaGreatDoorCards
import Derived.Test.YthppjmoncapdfaaGreatDoorTie
import Derived.WalkKit
import Derived.ProofKit
import Derived.OpenShut
import Derived.Deep.DeepHandedRow
import Derived.Lib.LaidTab
import Derived.Stop.LaidErr
set_option linter.all false
set_option maxRecDepth 100000
open List (length)
namespace Go.Proofs.YthppjmoncapdfaaGreatDoor.cl
open Go Go.AM Go.RowKit
def Bt (h:Hint):Code->List Code
 | .seq a b=>match find h.blk (b9 a) with
  |some _=>[.seq a b]
  |none=>Bt h a++Bt h b
 | .cond _ a b=>Bt h a++Bt h b
 | .block _ c=>Bt h c
 | .loop c=>Bt h c
 | .scope c=>Bt h c
 |_=>[]
def N4 {q:Qp} {B:Mu} {P:Program} {h:Hint} {N:Nat}:∀c:Code,(∀a b x,Code.seq a b∈Bt h c->find h.blk (b9 a)=some x->Bb q B P N (.seq a b) x.1 x.2)->jO q B P h N c:=by intro c;induction c with
 |seq a b D F=>intro l;simp only[jO];simp only[Bt] at l;cases I:find h.blk (b9 a) with
  |some x=>rw[I] at l;exact l a b x ah I
  |none=>rw[I] at l;exact⟨D λa b x z=>l a b x (eS _ z),F λa b x z=>l a b x (qb _ z)⟩
 |cond c a b D F=>intro l;exact⟨D λa b x z=>l a b x (eS _ z),F λa b x z=>l a b x (qb _ z)⟩
 |block id c G=>intro l;exact G l
 |loop c G=>intro l;exact G l
 |scope c G=>intro l;exact G l
 |_=>intro _;trivial
def Ah (id:Nat):Code->Option (Array Oper)
 | .region i l _=>bif Nat.beq i id then some l else none
 | .seq a b=>match Ah id a with
  |some x=>some x
  |none=>Ah id b
 | .cond _ a b=>match Ah id a with
  |some x=>some x
  |none=>Ah id b
 | .block _ c=>Ah id c
 | .loop c=>Ah id c
 | .scope c=>Ah id c
 |_=>none
noncomputable def Bu:Code:=match P.funcs[173]? with
 |some fn=>fn.body.getD .skip
 |none=> .skip
noncomputable def bk:Code:=(Bt (H 173) Bu).headD .skip
noncomputable def oo (id:Nat):Array Oper:=(Ah id bk).getD #[]
noncomputable def ck:Code:= .seq (.region 32 (oo 32) false) (.seq (.region 33 (oo 33) false) .ret)
noncomputable def rkC:Code:= .seq (.region 29 (oo 29) false) (.seq (.cond (.tmp 84) .skip (.exit 8)) (.block 9 (.seq (.region 30 (oo 30) false) (.region 31 (oo 31) false))))
def SG:bk= .seq (.seq (.region 28 (oo 28) false) (.block 8 (.loop rkC))) ck:=by kernel_rfl
def Rp:Bt (H 173) Bu=[bk]:=by kernel_rfl
structure Op (o:Oper) (d:Nat):Prop where
 dst:o.dst=some d
 guard:o.guard=none
def q28:∃x y,(oo 28).toList=[x,y]/\Op x 81/\x.op= .move (.tmp 3)/\Op y 82/\y.op= .range 220 (.tmp 81):=by refine⟨(oo 28)[0]'(by rw[show(oo 28).size=2 by kernel_rfl];decide),(oo 28)[1]'(by rw[show(oo 28).size=2 by kernel_rfl];decide),by kernel_rfl,⟨by kernel_rfl,by kernel_rfl⟩,by kernel_rfl,⟨by kernel_rfl,by kernel_rfl⟩,by kernel_rfl⟩
def q29:∃x y,(oo 29).toList=[x,y]/\Op x 83/\x.op= .next (.tmp 82) false/\Op y 84/\y.op= .extract (.tmp 83) 0:=by refine⟨(oo 29)[0]'(by rw[show(oo 29).size=2 by kernel_rfl];decide),(oo 29)[1]'(by rw[show(oo 29).size=2 by kernel_rfl];decide),by kernel_rfl,⟨by kernel_rfl,by kernel_rfl⟩,by kernel_rfl,⟨by kernel_rfl,by kernel_rfl⟩,by kernel_rfl⟩
def q30:∃x y z,(oo 30).toList=[x,y,z]/\Op x 85/\x.op= .entry (.tmp 82)/\Op y 86/\y.op= .extract (.tmp 85) 0/\Op z 14/\z.op= .assign (.tmp 86):=by refine⟨(oo 30)[0]'(by rw[show(oo 30).size=3 by kernel_rfl];decide),(oo 30)[1]'(by rw[show(oo 30).size=3 by kernel_rfl];decide),(oo 30)[2]'(by rw[show(oo 30).size=3 by kernel_rfl];decide),by kernel_rfl,⟨by kernel_rfl,by kernel_rfl⟩,by kernel_rfl,⟨by kernel_rfl,by kernel_rfl⟩,by kernel_rfl,⟨by kernel_rfl,by kernel_rfl⟩,by kernel_rfl⟩
def q31:∀o∈(oo 31).toList,o.dst≠some 82:=by
 have h:((oo 31).toList.all λo=>match o.dst with|some d=> !Nat.beq d 82|none=>true)=true:=by kernel_rfl
 intro o l e;have:=cH.1 h o l;rw[e] at this;cases this
def W6:P.underlying 220=some (.map 9 4):=by kernel_rfl
def E5 (q z D F:Ob) (l:List (List UInt8)):List (Nat×Ob):=[(10000,q),(10001,z),(20002, .row 9 1 (l.map iP)),(20003,D),(20004,F)]
def Tn (q z D F:Ob) (l:List (List UInt8)):St:={ env:=find [(0, .ptr 10000 0)],ob:=find (E5 q z D F l) }
def Ni (q z D F:Ob) (l:List (List UInt8)) (s:List UInt8):St:={ env:=find [(0, .ptr 10000 0),(14, .pv (.str s))],ob:=find (E5 q z D F l) }
def pick (e:Ex) (l:St):Option (Ex×Option SV×Option SV×List (Option Ob)):=some (e,l.env 0,l.env 2,[l.ob 10000,l.ob 10001,l.ob 20002,l.ob 20003,l.ob 20004])
abbrev AE (v0 v1:AV):Ob:= .box 171 [.pv v0, .pv v1, .row 10001, .row 20002, .row 20003, .row 20004]
def ex31 (v0 v1:AV) (a1 a2:List AV) (y3 y4:List (List AV)) (l:List (List UInt8)) (s:List UInt8):
  kM P lH (H 173) dm (.region 31 (oo 31) false) (Ni (AE v0 v1) (.mp 9 3 a1 a2) (.row 3 1 y3) (.row 114 1 y4) l s) pick=
   check ((length (l.map iP)+length [[AV.str s]]) *16<=140737488355328/\length (l.map iP)+length [[AV.str s]]<=4611686018427387904)
    (some (.normal,some (.ptr 10000 0),none,[some (AE v0 v1),some (.mp 9 3 a1 a2),some (.row 9 1 (l.map iP++[[AV.str s]])),some (.row 3 1 y3),some (.row 114 1 y4)])):=by kernel_rfl
def ex32 (v0 v1:AV) (a1 a2:List AV) (y3 y4:List (List AV)) (l:List (List UInt8)):
  kM P lH (H 173) dm ck (Tn (AE v0 v1) (.mp 9 3 a1 a2) (.row 3 1 y3) (.row 114 1 y4) l) pick=
   Bx (dm 180 [.row 10000] [(10000, .row 9 1 (l.map iP))]) 10000 9 1 (λr c=>oO Q18 r λ_=>oO (List.map iP) c λxs=>(some (.ret,some (.ptr 10000 0),some (.pv (.int .i64 0)),[some (AE v0 v1),some (.mp 9 3 a1 a2),some (.row 9 1 (xs.map iP)),some (.row 3 1 y3),some (.row 114 1 y4)]))):=by kernel_rfl
end Go.Proofs.YthppjmoncapdfaaGreatDoor.cl
set_option maxRecDepth 100000
namespace Go.Proofs.YthppjmoncapdfaaGreatDoor.cl
open Go Go.AM Go.RowKit
theorem br {a:Act} {i:Nat} {v:Value} (h:i<a.tmps.size):(a.put (some i) v).tmps[i]? =some v:=by simp[Act.put,h]
theorem aM {a:Act} {i j:Nat} {v:Value} (h:i≠j):(a.put (some i) v).tmps[j]? =a.tmps[j]? :=by simp[Act.put,qe,h]
def iH {a:Act} {i:Nat} {v:Value}:(a.put (some i) v).tmps.size=a.tmps.size:=by simp[Act.put]
def BH {a:Act} {i:Nat} {v:Value} (h:a.tmps[i]? =some v):a.eval (.tmp i)=v:=by obtain⟨l,e⟩:=cO.1 h;simp[Act.eval,Array.getD,l,e]
def RG {l:St} (q:Hj l=true):∃(D Q:List AV) (xs:List (List AV)) (v0 v1:AV) (a1 a2:List AV) (y3 y4:List (List AV)),
  l.env 0=some (.ptr 10000 0)/\l.env 3=some (.row 15)/\l.ob 10000=some (AE v0 v1)/\l.ob 15=some (.mp 9 4 D Q)/\l.ob 20002=some (.row 9 1 xs)/\l.ob 10001=some (.mp 9 3 a1 a2)/\l.ob 20003=some (.row 3 1 y3)/\l.ob 20004=some (.row 114 1 y4)/\Jl xs D=true:=by
 unfold Hj at q;split at q
 .rename_i F K P;split at q
  .rename_i z I G N O;exact⟨_,_,_,_,_,_,_,_,_,F,K,P,z,I,G,N,O,q⟩
  .cases q
 .cases q
def Jm {xs:List (List AV)} {l:List AV} (h:Jl xs l=true):xs=(xs.map vp).map iP/\l=(l.map strOf).map AV.str/\xs.length+l.length<=1073741824:=by
 unfold Jl at h;simp only[aF,cH] at h;obtain⟨⟨z,D⟩,F⟩:=h;refine⟨?_,?_,cI F⟩
 .rw[dw];refine(j0 xs).symm.trans (fQ λx q=> ?_);have:=z x q;unfold z6 at this;split at this
  .rename_i y;unfold isStr at this;split at this
   .rfl
   .cases this
  .cases this
 .rw[dw];refine(j0 l).symm.trans (fQ λx q=> ?_);have:=D x q;unfold isStr at this;split at this
  .rfl
  .cases this
def su (e:MapEntry):List UInt8:=match e.key with
 | .string s=>s.data.toList
 |_=>[]
def RR {Q:Mu}:∀{Y:List (List UInt8)} {l:List MapEntry},bl Q (Y.map AV.str) (l.map (·.key))->l.map su=Y/\∀e∈l,e.key= .string ⟨(su e).toArray⟩:=by intro Y;induction Y with
 |nil=>
  intro l h;have N:l.map (·.key)=[]:=by rw[cW,bl] at h;exact h
  have:l=[]:=List.map_eq_nil_iff.1 N
  subst this;exact⟨rfl,λe O=>by cases O⟩
 |cons y Y P=>intro l h;rw[aK,bl] at h;obtain⟨u,R,e,I,q⟩:=h;cases l with
  |nil=>cases e
  |cons x l=>
   rw[aK] at e;injection e with F K;rw[rep] at I;subst I;rw[<-K] at q;obtain⟨a,b⟩:=P q;have G:su x=y:=by unfold su;rw[F]
   refine⟨by rw[aK,a,G],λz D=> ?_⟩;rcases aD.1 D with rfl|D
   .rw[G,F]
   .exact b z D
def JZ {l m:List (List UInt8)} (h:l.Perm m):jB Op.bytesLess l=jB Op.bytesLess m:=by
 obtain⟨s1,F⟩:=oT Op.bytesLess (λa b h=>r7 h) za l;obtain⟨s2,G⟩:=oT Op.bytesLess (λa b h=>r7 h) za m;refine vB ((F.trans h).trans G.symm) s1 s2 λx _ y _ z D=> ?_
 apply mY;intro q;have:=Br _ _ z q;rw[D] at this;cases this
def yC {q F:Type} {f:q->F}:∀{l:List q},(l.map f).Nodup->l.Nodup:=by intro l;induction l with
 |nil=>intro _;simp
 |cons x l D=>intro h;rw[aK,gl] at h;rw[gl];exact⟨λz=>h.1 (aA.2 ⟨x,z,rfl⟩),D h.2⟩
def N8 {l:List MapEntry} (h:(l.map (·.born)).Nodup):∀x∈l,∀y∈l,x.born=y.born->x=y:=by induction l with
 |nil=>intro x D;cases D
 |cons a l G=>
  rw[aK,gl] at h;intro x D y F e;rcases aD.1 D with rfl|z
  .rcases aD.1 F with rfl|q
   .rfl
   .exact absurd (aA.2 ⟨y,q,e.symm⟩) h.1
  .rcases aD.1 F with rfl|q
   .exact absurd (aA.2 ⟨x,z,e⟩) h.1
   .exact G h.2 x z y q e
def hb32:find (H 173).blk (b9 (.region 32 (oo 32) false))=none:=by kernel_rfl
def hb33:find (H 173).blk (b9 (.region 33 (oo 33) false))=none:=by kernel_rfl
def TG {q:Qp} {B:Mu}:jO q B P (H 173) 102 ck:=by unfold ck;simp only[jO];rw[hb32];refine⟨trivial,?_⟩;rw[hb33];exact⟨trivial,trivial⟩
def TH:kC 102 ck=true:=by kernel_rfl
def R7:kC 102 (.region 31 (oo 31) false)=true:=by kernel_rfl
def TK:∀o∈(oo 31).toList,∀i,o.dst=some i->i<102:=by intro o q i l;have h:=R7;simp only[kC,cH] at h;have:=h o q;simpa[l,bA] using this
def Nk:∀(l:List (List UInt8)),strs (l.map iP)=some l:=by intro l;induction l with
 |nil=>rfl
 |cons s l q=>simp[iP,strs] at *;rw[q]
def UN {l:List (List UInt8)} (z:l.length<=1073741824):dm 180 [.row 10000] [(10000, .row 9 1 (l.map iP))]=some (.jy [],[(10000, .row 9 1 ((jB Op.bytesLess l).map iP))]):=by have q:Nat.ble l.length 1073741824=true:=gp z;simp only[dm,LZ,Nk,q,ai]
section
variable {B:Mu} (nY:dX False B P dm) (uY:P.follows .mixedOrders=true) {w0:World} {μ0:Mu} {L:nV} (hq:L.q=False) (hB:B.le μ0)
include nY uY hq hB
theorem VV {v0 v1:AV} {a1 a2:List AV} {y3 y4:List (List AV)} {l:List (List UInt8)} (hl:l.length<=1073741824) {R:Mu} {G:Nat->Value} {a:Act} {w:World}
  (W:Rel 102 w0 μ0 L R G (Tn (AE v0 v1) (.mp 9 3 a1 a2) (.row 3 1 y3) (.row 114 1 y4) l) a w):
  ck.wp P (K6 102 w0 μ0 L .ret { env:=find [(2, .pv (.int .i64 0))],ob:=find (E5 (AE v0 v1) (.mp 9 3 a1 a2) (.row 3 1 y3) (.row 114 1 y4) (jB Op.bytesLess l)) }) a w:=by
 have z:=ex32 v0 v1 a1 a2 y3 y4 l;rw[UN hl,GM] at z;rw[show(AV.jy []:AV)=Q18 () from rfl,gT,gT] at z;obtain⟨n,e,K,V,N⟩:=rj ck z;unfold pick at N;simp only[aB,aQ,cU,dL] at N;obtain⟨rfl,_,S,o0,o1,o2,o3,o4⟩:=N;refine wp_mono (pY.1 (BJ hB (by rw[hq];exact nY.mono hB) uY n ck _ _ _ TH TG V R G a w W _ Wd.wide (.inl rfl))) ?_;rintro e' a' w' ⟨rfl,Q,I,U⟩;refine⟨rfl,Q,I,U.sub (λi sv D=> ?_) (λid o D=> ?_)⟩
 .simp only[find] at D;cases q:Nat.beq 2 i with
  |true=>rw[q,ai] at D;rw[<-eN q,S];exact D
  |false=>rw[q,aj] at D;cases D
 .have key:∀(l:List (Nat×Ob)),(∀p∈l,K.ob p.1=some p.2)->∀id o,find l id=some o->K.ob id=some o:=by
   intro l;induction l with
   |nil=>intro _ id o h;cases h
   |cons p l ih=>intro F id o h;simp only[find] at h;cases q:Nat.beq p.1 id with
    |true=>rw[q,ai] at h;rw[<-eN q,F p ah];exact h
    |false=>rw[q,aj] at h;exact ih (λp O=>F p (by simp[O])) id o h
  refine key _ ?_ id o D;intro p F;simp only[E5,aD,dG,dV] at F;rcases F with rfl|rfl|rfl|rfl|rfl
  .exact o0
  .exact o1
  .exact o2
  .exact o3
  .exact o4
theorem yA {z D F G:Ob} {l:List (List UInt8)} {id:Nat} {o:Ob} (h:find (E5 z D F G l) id=some o):(id,o)∈E5 z D F G l:=by
 have key:∀(l:List (Nat×Ob)),find l id=some o->(id,o)∈l:=by intro l;induction l with
  |nil=>intro h;cases h
  |cons p l I=>intro h;obtain⟨k,x⟩:=p;simp only[find] at h;cases q:Nat.beq k id with
   |true=>rw[q,ai] at h;injection h with h;rw[<-eN q,h];simp
   |false=>rw[q,aj] at h;exact cK _ (I h)
 exact key _ h
theorem OE {q z D F:Ob} {l:List (List UInt8)} {f:Nat->Option Ob} (G:f 10000=some q) (I:f 10001=some z) (K:f 20002=some (.row 9 1 (l.map iP))) (N:f 20003=some D) (O:f 20004=some F):
  ∀id o,find (E5 q z D F l) id=some o->f id=some o:=by
 intro id o h;have:=yA nY uY hq hB h;simp only[E5,aD,dG,dV,aQ] at this;rcases this with⟨rfl,rfl⟩|⟨rfl,rfl⟩|⟨rfl,rfl⟩|⟨rfl,rfl⟩|⟨rfl,rfl⟩
 .exact G
 .exact I
 .exact K
 .exact N
 .exact O
omit nY uY hq hB in
theorem RA {s:SV} {i:Nat} {q:SV} (h:find [(0,s)] i=some q):i=0/\q=s:=by simp only[find] at h;cases l:Nat.beq 0 i with
 |true=>rw[l,ai] at h;injection h with h;exact⟨(eN l).symm,h.symm⟩
 |false=>rw[l,aj] at h;cases h
theorem VD {v0 v1:AV} {a1 a2:List AV} {y3 y4:List (List AV)} {l:List (List UInt8)} {s:List UInt8} (hl:l.length<=1073741824) {K:Mu} {D:Nat->Value} {a:Act} {w:World} {V:Value} (h82:a.tmps[82]? =some V)
  (hR:Rel 102 w0 μ0 L K D (Ni (AE v0 v1) (.mp 9 3 a1 a2) (.row 3 1 y3) (.row 114 1 y4) l s) a w):
  (Code.region 31 (oo 31) false).wp P (λe F I=>e= .normal/\F.tmps[82]? =some V/\∃z q,Rel 102 w0 μ0 L z q (Tn (AE v0 v1) (.mp 9 3 a1 a2) (.row 3 1 y3) (.row 114 1 y4) (l++[s])) F I/\
   (∀id o,find (E5 (AE v0 v1) (.mp 9 3 a1 a2) (.row 3 1 y3) (.row 114 1 y4) (l++[s])) id=some o->∀g,gE (q id) g->w.heap.size<=g\/∃S o',find (E5 (AE v0 v1) (.mp 9 3 a1 a2) (.row 3 1 y3) (.row 114 1 y4) l) S=some o'/\gE (D S) g)/\
   (∀b,b<w.heap.size->(∀id o,find (E5 (AE v0 v1) (.mp 9 3 a1 a2) (.row 3 1 y3) (.row 114 1 y4) l) id=some o->¬gE (D id) b)->I.heap[b]? =w.heap[b]?)/\
   (∀b j,b<w.heap.size->K b j=none->z b j=none)) a w:=by
 have O:=ex31 v0 v1 a1 a2 y3 y4 l s;rw[bJ (by rw[aR];simp only[aT,cL];omega)] at O;obtain⟨n,e,st',h1,h2⟩:=rj (.region 31 (oo 31) false) O;unfold pick at h2;simp only[aB,aQ,cU,dL] at h2;obtain⟨rfl,e0,_,o0,o1,o2,o3,o4⟩:=h2
 have hI:=hR.into (λid o h=>by
  have:=yA nY uY hq hB h;simp only[E5,aD,dG,dV,aQ] at this
  rcases this with⟨rfl,rfl⟩|⟨rfl,rfl⟩|⟨rfl,rfl⟩|⟨rfl,rfl⟩|⟨rfl,rfl⟩<;>exact⟨af,λk e s ks vs h=>by cases h⟩)
 have G:dX (FC (Ni (AE v0 v1) (.mp 9 3 a1 a2) (.row 3 1 y3) (.row 114 1 y4) l s).ob D L.q).q K P dm:=by show dX L.q K P dm;rw[hq];exact nY.mono (hB.trans hR.base.1)
 have hw:=Fp (Q:=λe F I=>e= .normal/\∃z q,Rel 102 w K (FC (Ni (AE v0 v1) (.mp 9 3 a1 a2) (.row 3 1 y3) (.row 114 1 y4) l s).ob D L.q) z q st' F I) G TK h1 hI (λF I z q h=>⟨rfl,z,q,h⟩);have hw2:=IX _ a w q31 h82 hw;refine pY.1 (iW (wpIn_region_list hw2) ?_);rintro e F I ⟨⟨rfl,z,q,N⟩,ht⟩;have Vi:Rel 102 w K (FC (Ni (AE v0 v1) (.mp 9 3 a1 a2) (.row 3 1 y3) (.row 114 1 y4) l s).ob D L.q) z q (Tn (AE v0 v1) (.mp 9 3 a1 a2) (.row 3 1 y3) (.row 114 1 y4) (l++[s])) F I:=
  N.sub (λi sv hi=>by
   obtain⟨rfl,rfl⟩:=RA hi
   exact e0) (OE nY uY hq hB o0 o1 (by rw[o2,bw];rfl) o3 o4)
 obtain⟨⟨U,ML,Gn⟩,hb3⟩:=hR.back Vi (names:=[10000,10001,20002,20003,20004]) (λid=>by
  constructor
  .intro W;obtain⟨o,R⟩:=kK.1 W;have:=yA nY uY hq hB R;simp only[E5,aD,dG,dV,aQ] at this;rcases this with⟨rfl,_⟩|⟨rfl,_⟩|⟨rfl,_⟩|⟨rfl,_⟩|⟨rfl,_⟩<;>simp
  .intro W;simp only[aD,dG,dV] at W
   rcases W with rfl|rfl|rfl|rfl|rfl<;>rfl) (λid o R=>by
  have:=yA nY uY hq hB R;simp only[E5,aD,dG,dV,aQ] at this;rcases this with⟨rfl,rfl⟩|⟨rfl,rfl⟩|⟨rfl,rfl⟩|⟨rfl,rfl⟩|⟨rfl,rfl⟩
  .exact⟨ah,rfl,rfl⟩
  .exact⟨ah,rfl,rfl⟩
  .exact⟨ah,rfl,rfl⟩
  .exact⟨ah,rfl,rfl⟩
  .exact⟨ah,rfl,rfl⟩) (λi sv hi=>by
  obtain⟨rfl,rfl⟩:=RA hi
  exact⟨rfl,rfl⟩)
 refine⟨rfl,ht rfl,z,U,ML,λid o R g hg=>Gn id o R g hg,λb Q hno=>hb3 b Q hno,λb j Q hm=> ?_⟩;cases hv:z b j with
 |none=>rfl
 |some v=>
  rcases N.base.2 b j v hv with h|h
  .rw[hm] at h;cases h
  .omega
end
end Go.Proofs.YthppjmoncapdfaaGreatDoor.cl
set_option maxRecDepth 100000
namespace Go.Proofs.YthppjmoncapdfaaGreatDoor.cl
open Go Go.AM Go.RowKit
def Re (w0:World) (μ0:Mu) (L:nV) (v0 v1:AV) (a1 a2:List AV) (y3 y4:List (List AV)) (X:List (List UInt8)) (r b:Nat) (j7:Array MapEntry) (clock:Nat) (a:Act) (w:World):Prop:=
 ∃(D:Mu) (q:Nat->Value) (z:List MapEntry) (l:Array Nat) (c:Nat),
  Rel 102 w0 μ0 L D q (Tn (AE v0 v1) (.mp 9 3 a1 a2) (.row 3 1 y3) (.row 114 1 y4) (X++z.map su)) a w/\
  a.tmps[82]? =some (.pointer (some ⟨r,0,none⟩))/\w.heap[b]? =some (.map j7 clock)/\w.heap[r]? =some (.mapIter (some b) clock l c)/\clock<=c/\(∀j,D r j=none)/\
  (∀id o,find (E5 (AE v0 v1) (.mp 9 3 a1 a2) (.row 3 1 y3) (.row 114 1 y4) (X++z.map su)) id=some o->¬gE (q id) r/\¬gE (q id) b)/\
  (∀e∈z,e∈j7.toList)/\(z.map (·.born)).Nodup/\(∀n,l.contains n=true↔n∈z.map (·.born))
def DI (r:Nat) (j7:Array MapEntry) (w:World):Nat:=match w.heap[r]? with
 |some (.mapIter _ _ l _)=>(leftOf j7 l).size
 |_=>0
def zG {P:Program} {o:Oper} {a:Act} {w w':World} {K:Act->World->Prop} {Q:Exit->Act->World->Prop} {v:Value} (q:(execOp a.eval o).run P w= .ok (.value v) w') (l:K (a.put o.dst v) w'):o.wp P a w K Q:=by unfold Oper.wp;rw[q];exact l
def wp_assign {P:Program} {o:Oper} {a:Act} {w:World} {K:Act->World->Prop} {Q:Exit->Act->World->Prop} {d i:Nat} {v:Value} (z:o.dst=some d) (l:o.op= .move (.tmp i)\/o.op= .assign (.tmp i)) (h:a.tmps[i]? =some v) (q:K (a.put (some d) v) w):o.wp P a w K Q:=by refine zG (v:=v) (w':=w) ?_ (by rw[z];exact q);unfold execOp;rcases l with l|l<;>rw[l]<;>simp[BH h]
def xE {P:Program} {o:Oper} {a:Act} {w:World} {K:Act->World->Prop} {Q:Exit->Act->World->Prop} {d i j:Nat} {l:Array Value} {v:Value} (z:o.dst=some d) (D:o.op= .extract (.tmp i) j) (h:a.tmps[i]? =some (.tuple l)) (F:l[j]? =some v) (q:K (a.put (some d) v) w):o.wp P a w K Q:=by refine zG (v:=v) (w':=w) ?_ (by rw[z];exact q);unfold execOp;rw[D];simp[BH h,Instr.extract,F]
def Ba {P:Program} {o:Oper} {a:Act} {w w':World} {K:Act->World->Prop} {Q:Exit->Act->World->Prop} {d:Nat} {v:Value} {s:Sem Value} (q:o.dst=some d) (z:execOp a.eval o=(do pure (.value (<-s)))) (D:s.run P w= .ok v w') (l:K (a.put (some d) v) w'):o.wp P a w K Q:=by refine zG (v:=v) (w':=w') ?_ (by rw[q];exact l);rw[z];simp[D]
section
variable {B:Mu} (nY:dX False B P dm) (uY:P.follows .mixedOrders=true) {w0:World} {μ0:Mu} {L:nV} (hq:L.q=False) (hB:B.le μ0)
include nY uY hq hB
variable {v0 v1:AV} {a1 a2:List AV} {y3 y4:List (List AV)} {X Y:List (List UInt8)} {r b:Nat} {j7:Array MapEntry} {clock:Nat}
theorem R8 (Uq:w0.heap.size<=r) (hrb:r≠b) (G:Me j7 clock) (hkey:∀e∈j7.toList,e.key= .string ⟨(su e).toArray⟩) (hY:j7.toList.map su=Y) (hlen:X.length+Y.length<=1073741824) {a:Act} {w:World}
  (hI:Re w0 μ0 L v0 v1 a1 a2 y3 y4 X r b j7 clock a w):
  rkC.wp P (Exit.then (λa' w'=>Re w0 μ0 L v0 v1 a1 a2 y3 y4 X r b j7 clock a' w'/\DI r j7 w'<DI r j7 w) (λe a' w'=>e= .exit 8/\∃μ loc l,(jB Op.bytesLess l=jB Op.bytesLess (X++Y)/\l.length<=1073741824)/\
   Rel 102 w0 μ0 L μ loc (Tn (AE v0 v1) (.mp 9 3 a1 a2) (.row 3 1 y3) (.row 114 1 y4) l) a' w')) a w:=by
 obtain⟨μ,loc,W,D,c,hR,h82,hb,hr,hc,uq,hno,R,hnd,N⟩:=hI;have V:a.tmps.size=102:=hR.size;have Wl:W.Nodup:=yC hnd;have Ui:j7.toList.Nodup:=yC G.2;have heslen:W.length<=j7.toList.length:=by
  have:=AK (l:=W.map (·.born)) (m:=j7.toList.map (·.born)) hnd (λx hx=>by
   obtain⟨e,he,rfl⟩:=aA.1 hx
   exact aA.2 ⟨e,R e he,rfl⟩)
  simpa using this
 have hYl:Y.length=j7.toList.length:=by rw[<-hY,aR]
 unfold rkC;refine lC (tG ?_);obtain⟨x,y,e29,dx,hx,dy,hy⟩:=q29;rw[e29];have hev:execOp a.eval x=(do pure (.value (<-Instr.next (.pointer (some ⟨r,0,none⟩)) false x.type))):=by unfold execOp;rw[hx];simp only[BH h82]
 rcases run_next_at (P:=P) w x.type r b clock c D j7 clock hr hb G.1 hc with⟨h0,Q⟩|⟨e,he,S,hal,Q⟩
 ·
  refine gR dx.guard λK U=>Ba dx.dst hev Q (U _ _ ?_)
  refine gR dy.guard λK U=>xE dy.dst hy (br (by rw[V];omega)) (v:= .bool false) ah (U _ _ (qf ?_))
  show Code.wp P _ _ _ _;refine lC (wp_cond_false (BH (br (by rw[iH,V];omega))) (wp_exit ?_));show Exit.exit 8= .exit 8/\_;have hp:(X++W.map su).Perm (X++Y):=by
   rw[<-hY];refine List.Perm.append_left _ (List.Perm.map _ ?_);refine(List.perm_ext_iff_of_nodup Wl Ui).2 λz=>⟨R z,λhz=> ?_⟩
   have hs:=all_seen j7 D h0 z hz;obtain⟨z',hz',e'⟩:=aA.1 ((N _).1 hs);have:=N8 G.2 z' (R z' hz') z hz e';rw[<-this];exact hz'
  refine⟨rfl,μ,loc,X++W.map su,⟨JZ hp,by rw[cC,aR];omega⟩,hR.re ?_ hR.defers (λi sv hi=> ?_) λid o h=>h⟩
  .rw[iH,iH,V]
  .obtain⟨rfl,rfl⟩:=RA hi;rw[aM af,aM af];exact hR.env 0 _ rfl
 ·
  obtain⟨hem,hes⟩:=mem_left he;have hnew:e.born∉W.map (·.born):=λhm=>by rw[(N _).2 hm] at hes;cases hes
  have OR:∀S:World,(S=w\/S=w.drew)->S.heap=w.heap:=by rintro S (rfl|rfl)<;>rfl
  have hh1:=OR S hal;have hr1:S.heap[r]? =some (.mapIter (some b) clock D c):=by rw[hh1];exact hr
  have hst:=MapKept.heap_set (o':= .mapIter (some b) clock (D.push e.born) clock) hr1;have Vi:Rel 102 w0 μ0 L μ loc (Tn (AE v0 v1) (.mp 9 3 a1 a2) (.row 3 1 y3) (.row 114 1 y4) (X++W.map su)) a (Go.ChangeMaps.setBlock S r (.mapIter (some b) clock (D.push e.born) clock)):=by
   refine hR.aside Uq uq (λid o h=>(hno id o h).1) (λb' hne=> ?_) ?_ ?_ ?_ ?_ ?_
   .show(S.heap.setIfInBounds r _)[b']? =_;rw[hst.2 b' hne,hh1]
   .rcases hal with rfl|rfl<;>rfl
   .rcases hal with rfl|rfl<;>rfl
   .rcases hal with rfl|rfl<;>rfl
   .show(S.heap.setIfInBounds r _).size=_;rw[Array.size_setIfInBounds,hh1]
   .rcases hal with rfl|rfl
    .exact aJ _
    .exact uM _
  have Vl:(Go.ChangeMaps.setBlock S r (.mapIter (some b) clock (D.push e.born) clock)).heap[r]? =some (.mapIter (some b) clock (D.push e.born) clock):=hst.1;have Gn:(Go.ChangeMaps.setBlock S r (.mapIter (some b) clock (D.push e.born) clock)).heap[b]? =some (.map j7 clock):=by show(S.heap.setIfInBounds r _)[b]? =_;rw[hst.2 b (λe=>hrb e.symm),hh1];exact hb
  generalize Go.ChangeMaps.setBlock S r (.mapIter (some b) clock (D.push e.born) clock)=w2 at Q Vi Vl Gn;refine gR dx.guard λK U=>Ba dx.dst hev Q (U _ _ ?_)
  refine gR dy.guard λK U=>xE dy.dst hy (br (by rw[V];omega)) (v:= .bool true) ah (U _ _ (qf ?_))
  show Code.wp P _ _ _ _;refine lC (wp_cond_true (BH (br (by rw[iH,V];omega))) (wp_skip ?_));show Code.wp P _ _ _ _;refine wp_block (lC (tG ?_));obtain⟨p,q,s,e30,dp,hp,dq,S5,ds,hs⟩:=q30;rw[e30];have Ud:(((a.put (some 83) (.tuple #[.bool true,e.key,e.val])).put (some 84) (.bool true))).tmps[82]? =some (.pointer (some ⟨r,0,none⟩)):=by rw[aM af,aM af];exact h82
  have I:(((a.put (some 83) (.tuple #[.bool true,e.key,e.val])).put (some 84) (.bool true))).tmps.size=102:=by rw[iH,iH,V]
  have h0':(((a.put (some 83) (.tuple #[.bool true,e.key,e.val])).put (some 84) (.bool true))).tmps[0]? =a.tmps[0]? :=by rw[aM af,aM af]
  have hd':(((a.put (some 83) (.tuple #[.bool true,e.key,e.val])).put (some 84) (.bool true))).defers=[]:=hR.defers;generalize ((a.put (some 83) (.tuple #[.bool true,e.key,e.val])).put (some 84) (.bool true))=c2 at Ud I h0' hd';have hev2:execOp c2.eval p=(do pure (.value (<-Instr.entry (.pointer (some ⟨r,0,none⟩))))):=by unfold execOp;rw[hp];simp only[BH Ud]
  refine gR dp.guard λK U=>Ba dp.dst hev2 (run_entry_at w2 r b clock D j7 clock e Vl Gn hem G.2) (U _ _ ?_)
  refine gR dq.guard λK U=>xE dq.dst S5 (br (by rw[I];omega)) (v:=e.key) ah (U _ _ ?_)
  refine gR ds.guard λK U=>wp_assign ds.dst (.inr hs) (v:=e.key) (br (by rw[iH,I];omega)) (U _ _ (qf ?_))
  show Code.wp P _ _ _ _;have SP:(((c2.put (some 85) (.tuple #[e.key,e.val])).put (some 86) e.key).put (some 14) e.key).tmps[82]? =some (.pointer (some ⟨r,0,none⟩)):=by rw[aM af,aM af,aM af];exact Ud
  have S7:(((c2.put (some 85) (.tuple #[e.key,e.val])).put (some 86) e.key).put (some 14) e.key).tmps.size=102:=by rw[iH,iH,iH,I]
  have VY:(((c2.put (some 85) (.tuple #[e.key,e.val])).put (some 86) e.key).put (some 14) e.key).tmps[0]? =a.tmps[0]? :=by rw[aM af,aM af,aM af];exact h0'
  have SO:(((c2.put (some 85) (.tuple #[e.key,e.val])).put (some 86) e.key).put (some 14) e.key).tmps[14]? =some e.key:=br (by rw[iH,iH,I];omega);have Wb:(((c2.put (some 85) (.tuple #[e.key,e.val])).put (some 86) e.key).put (some 14) e.key).defers=[]:=hd';generalize (((c2.put (some 85) (.tuple #[e.key,e.val])).put (some 86) e.key).put (some 14) e.key)=a3 at SP S7 VY SO Wb;have hR3:Rel 102 w0 μ0 L μ loc (Ni (AE v0 v1) (.mp 9 3 a1 a2) (.row 3 1 y3) (.row 114 1 y4) (X++W.map su) (su e)) a3 w2:=by
   refine Vi.re S7 Wb (λi sv hi=> ?_) λid o h=>h
   have F:find [(0,SV.ptr 10000 0),(14,SV.pv (.str (su e)))] i=some sv:=hi;simp only[find] at F;cases h0b:Nat.beq 0 i with
   |true=>rw[h0b,ai] at F;injection F with F;rw[<-eN h0b,<-F,VY];exact hR.env 0 _ rfl
   |false=>rw[h0b,aj] at F;cases h1b:Nat.beq 14 i with
    |true=>rw[h1b,ai] at F;injection F with F;rw[<-eN h1b,<-F,SO];exact⟨_,rfl,by show rep μ (.str (su e)) e.key;rw[rep,hkey e hem]⟩
    |false=>rw[h1b,aj] at F;cases F
  have O:=VD nY uY hq hB (s:=su e) (by rw[cC,aR];omega) SP hR3;refine wp_mono O ?_;rintro ee a' w' ⟨rfl,k82,μ',loc',k1,k2,k3,k4⟩;have Wr:r<w2.heap.size:=(cO.1 Vl).1;have hblt:b<w2.heap.size:=(cO.1 Gn).1;have kr:w'.heap[r]? =some (.mapIter (some b) clock (D.push e.born) clock):=(k3 r Wr λid o h=>(hno id o h).1).trans Vl;show Re w0 μ0 L v0 v1 a1 a2 y3 y4 X r b j7 clock a' w'/\DI r j7 w'<DI r j7 w;have O:X++(W++[e]).map su=(X++W.map su)++[su e]:=by rw[bw,<-eo];rfl
  refine⟨⟨μ',loc',W++[e],D.push e.born,clock,by rw[O];exact k1,k82,(k3 b hblt λid o h=>(hno id o h).2).trans Gn,kr,aJ _,λj=>k4 r j Wr (uq j),λid o h=> ?_,λz hz=> ?_,?_,λn=> ?_⟩,?_⟩
  .rw[O] at h;constructor
   .intro hin;rcases k2 id o h r hin with h1|⟨id',o',h1,h2⟩
    .omega
    .exact(hno id' o' h1).1 h2
   .intro hin;rcases k2 id o h b hin with h1|⟨id',o',h1,h2⟩
    .omega
    .exact(hno id' o' h1).2 h2
  .rcases bn.1 hz with hz|hz
   .exact R z hz
   .rw[cD] at hz;rw[hz];exact hem
  .rw[bw,jU];refine⟨hnd,by simp,λx hx y hy=> ?_⟩;simp only[aK,cW,cD] at hy;rintro rfl;exact hnew (hy▸hx)
  .rw[contains_push,ew,N,bw,bn];simp only[aK,cW,cD,mV]
  .unfold DI;rw[kr,hr];exact left_shrinks j7 D e he
end
def Mo {B:Mu} (nY:dX False B P dm) (uY:P.follows .mixedOrders=true):Bb False B P 102 bk Hj Hi:=by
 intro w0 μ0 L U z st a w hq hB hg q;obtain⟨ks,vs,xs,v0,v1,a1,a2,y3,y4,g0,g3,gb,G,g2,g1,g4,g5,hC⟩:=RG hg;obtain⟨hxs,hks,R⟩:=Jm hC;obtain⟨b,j7,clock,hl,hown,hh,uq,h1,h2,I⟩:=q.obs 15 _ G;rw[hks] at h1;obtain⟨hY,Q⟩:=RR h1;obtain⟨v3,ht3,hr3⟩:=q.env 3 _ g3;have hv3:v3= .map (some b):=by
  have:v3=dO (z 15):=hr3
  rw[this,hl];rfl
 subst hv3;have O:a.tmps.size=102:=q.size;have hF:Hi st=(1,{ env:=find [(2, .pv (.int .i64 0))],ob:=find (E5 (AE v0 v1) (.mp 9 3 a1 a2) (.row 3 1 y3) (.row 114 1 y4) (jB Op.bytesLess (xs.map vp++ks.map strOf))) }):=by unfold Hi;rw[G,g2,gb,g1,g4,g5];rfl
 rw[hF,SG];refine lC (lC (tG ?_));obtain⟨x,y,V,dx,hx,dy,hy⟩:=q28;rw[V];refine gR dx.guard λK hK=>wp_assign dx.dst (.inl hx) ht3 (hK _ _ ?_)
 have h81:(a.put (some 81) (.map (some b))).tmps[81]? =some (.map (some b)):=br (by rw[O];omega);have hev:execOp (a.put (some 81) (.map (some b))).eval y=(do pure (.value (<-Instr.range 220 (.map (some b))))):=by unfold execOp;rw[hy];simp only[BH h81]
 refine gR dy.guard λK hK=>Ba dy.dst hev (run_range_map w 220 9 4 b j7 clock W6 hh) (hK _ _ (qf ?_))
 show Code.wp P _ _ _ _;have D:b<w.heap.size:=(cO.1 hh).1;have S:∀id o,find (E5 (AE v0 v1) (.mp 9 3 a1 a2) (.row 3 1 y3) (.row 114 1 y4) (xs.map vp)) id=some o->st.ob id=some o/\id≠15:=by
  intro id o h;have F:(id,o)∈E5 (AE v0 v1) (.mp 9 3 a1 a2) (.row 3 1 y3) (.row 114 1 y4) (xs.map vp):=yA nY uY hq hB h;simp only[E5,aD,dG,dV,aQ] at F;rcases F with⟨rfl,rfl⟩|⟨rfl,rfl⟩|⟨rfl,rfl⟩|⟨rfl,rfl⟩|⟨rfl,rfl⟩
  .exact⟨gb,by decide⟩
  .exact⟨g1,by decide⟩
  .exact⟨by rw[<-hxs];exact g2,by decide⟩
  .exact⟨g4,by decide⟩
  .exact⟨g5,by decide⟩
 have hR1:Rel 102 w0 μ0 L U z st a (w.alloc (.mapIter (some b) clock #[] clock)):=q.HB (mJ w _);have Vi:Rel 102 w0 μ0 L U z (Tn (AE v0 v1) (.mp 9 3 a1 a2) (.row 3 1 y3) (.row 114 1 y4) (xs.map vp++([]:List MapEntry).map su)) ((a.put (some 81) (.map (some b))).put (some 82) (.pointer (some ⟨w.heap.size,0,none⟩))) (w.alloc (.mapIter (some b) clock #[] clock)):=by
  rw[cW,eT];refine hR1.re (by rw[iH,iH,O]) q.defers (λi sv hi=> ?_) λid o h=>(S id o h).1
  obtain⟨rfl,rfl⟩:=RA hi;rw[aM af,aM af];exact q.env 0 _ g0
 refine wp_block (wp_loop (Re w0 μ0 L v0 v1 a1 a2 y3 y4 (xs.map vp) w.heap.size b j7 clock) (λ_ w'=>DI w.heap.size j7 w') ?_ ?_)
 .refine⟨U,z,[], #[],clock,Vi,br (by rw[iH,O];omega),?_,?_,aJ _,λj=> ?_,λid o h=> ?_,λe he=>(by cases he),by simp,λn=>by simp⟩
  .show(w.heap.push _)[b]? =_;rw[Array.getElem?_push_lt D,<-qX D];exact hh
  .show(w.heap.push _)[w.heap.size]? =_;simp
  .cases hv:U w.heap.size j with
   |none=>rfl
   |some v=>have:=jx (q.qk _ _ _ hv);omega
  .rw[cW,eT] at h;obtain⟨h3,h4⟩:=S id o h;refine⟨λN=> ?_,λN=> ?_⟩
   .have:=((q.obs id o h3).block _ N).2.1;omega
   .exact q.apart id 15 o _ h3 G h4 b N (by rw[hl];exact qh.2 rfl)
 .intro a' w' hI;refine wp_mono (R8 nY uY hq hB q.grown af I Q hY (by rw[aR,aR];exact R) hI) ?_;intro e a2 w2 h;cases e with
  |normal=>exact h
  |exit id=>obtain⟨W,μ',loc',l,⟨hs,SX⟩,V0⟩:=h;injection W with W;subst W;show Code.wp P _ _ _ _;have:=VV nY uY hq hB SX V0;rw[hs] at this;exact this
  |goto l=>exact absurd h.1 ah
  |ret=>exact absurd h.1 ah
  |panic ch=>exact absurd h.1 ah
  |outgrown=>exact absurd h.1 ah
def Ro {B:Mu} (nY:dX False B P dm) (uY:P.follows .mixedOrders=true):∀f fn c,P.funcs[f]? =some fn->fn.body=some c->jO False B P (H f) fn.ntmps c:=by
 intro f fn c z G;by_cases h:f=173
 .subst h;have N:fn.ntmps=102:=by
   have:(P.funcs[173]?).map (·.ntmps)=some 102:=by kernel_rfl
   rw[z] at this;exact eO this
  have K:c=Bu:=by
   have:Bu=c:=by unfold Bu;rw[z];show fn.body.getD Code.skip=c;rw[G];rfl
   exact this.symm
  rw[N,K];refine N4 _ λa b x I D=> ?_
  rw[Rp,cD] at I;rw[I];have F:b9 a=28:=by
   have:Code.seq a b= .seq (.seq (.region 28 (oo 28) false) (.block 8 (.loop rkC))) ck:=I.trans SG
   injection this with q Q;rw[q];rfl
  rw[F] at D
  have:find (H 173).blk 28=some (Hj,Hi):=by kernel_rfl
  rw[this] at D;injection D with D;rw[<-D];exact Mo nY uY
 .refine jO.none ?_ c;have key:∀(l:List (Nat×Hint)),(l.all λp=>Nat.beq p.1 173||p.2.blk.isEmpty)=true->∀f,f≠173->((find l f).getD {}).blk=[]:=by
   intro l;induction l with
   |nil=>intro _ f _;rfl
   |cons p l O=>intro h f z;rw[ic,aF,ew] at h;simp only[find];cases G:Nat.beq p.1 f with
    |true=>
     rw[ai];rcases h.1 with q|q
     .exact absurd ((eN G).symm.trans (eN q)) z
     .exact pX.1 q
    |false=>rw[aj];exact O h.2 f z
  exact key hints (by kernel_rfl) f h
end Go.Proofs.YthppjmoncapdfaaGreatDoor.cl
set_option maxRecDepth 100000
namespace Go.Proofs.YthppjmoncapdfaaGreatDoor.cl
open Go Go.AM Go.RowKit Go.ChangeShapes Go.WideShapes Go.ChangeAt
def BK {T:Type} {q:T->List AV}:∀{xs:List (List AV)},(∀x∈xs,∃y:T,x=q y)->∃l:List T,xs=l.map q:=by intro xs;induction xs with
 |nil=>intro _;exact⟨[],rfl⟩
 |cons x xs F=>
  intro h;obtain⟨y,rfl⟩:=h x ah;obtain⟨l,rfl⟩:=F λz D=>h z (by simp[D])
  exact⟨y::l,rfl⟩
section
variable {H:Type} {enc:TypeId×Value->H} {w:World}
def zU:rY (H:=H) Rows.uptoBulk Rows.uptoBulkAll where
 str:=λ_=>rfl
 lit:=λl=>by cases l<;>simp[Rows.uptoBulk]
 nil:=by simp[Rows.uptoBulk]
 slice:=λ_ _=>by simp[Rows.uptoBulk]
 agg:=λ_=>by simp[Rows.uptoBulk]
 nilA:=by simp[Rows.uptoBulkAll]
 Oj:=λ_ _=>by simp[Rows.uptoBulkAll]
def rd54 (n:Nat):CV enc P w Rows.uptoBulk n 54 λl=>∃x:bD,l=x.enc:=by cases n with
 |zero=>exact CV.zero
 |succ n=>
  refine(zw zU (Qs:=[λa=>∃x,a=bU .i64 x,λa=>∃x,a=bU .i64 x]) Tryz.underlying54 (by kernel_rfl) (by kernel_rfl) ?_).mono ?_
  .exact⟨KJ zU Tryz.underlying3,KJ zU Tryz.underlying3,trivial⟩
  .rintro a ⟨_,_,rfl,⟨q,rfl⟩,_,_,rfl,⟨x1,rfl⟩,rfl⟩;exact⟨⟨q,x1⟩,rfl⟩
def rd50 (n:Nat):CV enc P w Rows.uptoBulk n 50 λq=>∃l:List bD,q=[.c4 2 (l.map bD.enc)]:=by cases n with
 |zero=>exact CV.zero
 |succ n=>refine(Iu zU (sz:=2) Tryz.underlying50 (by kernel_rfl) (by decide) (rd54 n)).mono ?_;rintro a ⟨xs,rfl,z⟩;obtain⟨l,rfl⟩:=BK z;exact⟨l,rfl⟩
def rd52 (n:Nat):CV enc P w Rows.uptoBulk n 52 λq=>∃x:Node,q=x.enc:=by cases n with
 |zero=>exact CV.zero
 |succ n=>
  refine(zw zU (Qs:=[λa=>∃x,a=bU .i64 x,λa=>∃l:List bD,a=[.c4 2 (l.map bD.enc)]]) Tryz.underlying52 (by kernel_rfl) (by kernel_rfl) ?_).mono ?_
  .exact⟨KJ zU Tryz.underlying3,rd50 n,trivial⟩
  .rintro a ⟨_,_,rfl,⟨z,rfl⟩,_,_,rfl,⟨x1,rfl⟩,rfl⟩;exact⟨⟨z,x1⟩,rfl⟩
def rd22 (n:Nat):CV enc P w Rows.uptoBulk n 22 λq=>∃l:List Node,q=[.c4 2 (l.map Node.enc)]:=by cases n with
 |zero=>exact CV.zero
 |succ n=>refine(Iu zU (sz:=2) Tryz.underlying22 (by kernel_rfl) (by decide) (rd52 n)).mono ?_;rintro a ⟨xs,rfl,z⟩;obtain⟨l,rfl⟩:=BK z;exact⟨l,rfl⟩
def rd24 (n:Nat):CV enc P w Rows.uptoBulk n 24 λq=>∃x:FSt,q=x.enc:=by cases n with
 |zero=>exact CV.zero
 |succ n=>
  refine(zw zU (Qs:=[λa=>∃l:List Node,a=[.c4 2 (l.map Node.enc)]]) Tryz.underlying24 (by kernel_rfl) (by kernel_rfl) ?_).mono ?_
  .exact⟨rd22 n,trivial⟩
  .rintro a ⟨_,_,rfl,⟨z,rfl⟩,rfl⟩;exact⟨⟨z⟩,rfl⟩
end
end Go.Proofs.YthppjmoncapdfaaGreatDoor.cl
set_option maxRecDepth 100000
namespace Go.Proofs.YthppjmoncapdfaaGreatDoor.cl
open Go Go.AM Go.RowKit Go.ChangeShapes Go.WideShapes Go.ChangeAt
def own:ownKnob Tryz.prog.godebug=none:=by kernel_rfl
def VX:Tryz.prog.globalNamed "math/bits.deBruijn64tab" =some 0:=by kernel_rfl
def OJ:(Tryz.prog.globals[0]?).map (·.type)=some 265:=by kernel_rfl
def Od:Tryz.prog.cellsOf 265=64:=by kernel_rfl
def TD:Tryz.prog.cellsOf 5=1:=by kernel_rfl
def Sf {W:World} (h:laidMetH Tryz.prog Rows.preferPartsRow.laid W):Lib.TabIs Tryz.prog W "math/bits.deBruijn64tab" .u8 [0,1,56,2,57,49,28,3,61,58,42,50,38,29,17,4,62,47,59,36,45,43,51,22,53,39,33,30,24,18,12,5,63,55,48,27,60,41,37,16,46,35,44,21,52,32,23,11,54,26,40,15,34,20,31,10,25,14,19,9,13,8,7,6]:=
 Lib.tabIs_of_head VX OJ Tryz.underlying265 Tryz.underlying5 TD Od (laidMet.tail (show laidMet Tryz.prog Rows.preferPartsRow.laid W from h))
def Se {W:World} (h:laidMetH Tryz.prog Rows.preferPartsRow.laid W):QA.le (Nz W):=by
 intro b j v l;unfold QA at l;split at l
 .rename_i z;obtain⟨rfl,q⟩:=z;injection l with l;subst l;have:=(Sf h).cell VX j q;refine oZ ?_ rfl;rw[this];have e:∀j,j<64->([0,1,56,2,57,49,28,3,61,58,42,50,38,29,17,4,62,47,59,36,45,43,51,22,53,39,33,30,24,18,12,5,63,55,48,27,60,41,37,16,46,35,44,21,52,32,23,11,54,26,40,15,34,20,31,10,25,14,19,9,13,8,7,6]:List Int).getD j 0=((Lib.deBruijn64tab.getD j 0:Nat):Int):=by decide
  rw[e j q]
 .cases l
def KK (q:Array Value):Obj->Obj
 | .cells _ t l=> .cells q t l
 |o=>o
noncomputable def zh (l:Os):World:=
 {World.holding Tryz.prog l ⟨#[], #[],[]⟩ with heap:=(((World.holding Tryz.prog l ⟨#[], #[],[]⟩).heap.modify 0 (KK #[.int .u8 0, .int .u8 1, .int .u8 56, .int .u8 2, .int .u8 57, .int .u8 49, .int .u8 28, .int .u8 3, .int .u8 61, .int .u8 58, .int .u8 42, .int .u8 50, .int .u8 38, .int .u8 29, .int .u8 17, .int .u8 4, .int .u8 62, .int .u8 47, .int .u8 59, .int .u8 36, .int .u8 45, .int .u8 43, .int .u8 51, .int .u8 22, .int .u8 53, .int .u8 39, .int .u8 33, .int .u8 30, .int .u8 24, .int .u8 18, .int .u8 12, .int .u8 5, .int .u8 63, .int .u8 55, .int .u8 48, .int .u8 27, .int .u8 60, .int .u8 41, .int .u8 37, .int .u8 16, .int .u8 46, .int .u8 35, .int .u8 44, .int .u8 21, .int .u8 52, .int .u8 32, .int .u8 23, .int .u8 11, .int .u8 54, .int .u8 26, .int .u8 40, .int .u8 15, .int .u8 34, .int .u8 20, .int .u8 31, .int .u8 10, .int .u8 25, .int .u8 14, .int .u8 19, .int .u8 9, .int .u8 13, .int .u8 8, .int .u8 7, .int .u8 6])).modify 1 (KK #[.int .u64 1, .int .u64 10, .int .u64 100, .int .u64 1000, .int .u64 10000, .int .u64 100000, .int .u64 1000000, .int .u64 10000000, .int .u64 100000000, .int .u64 1000000000, .int .u64 10000000000, .int .u64 100000000000, .int .u64 1000000000000, .int .u64 10000000000000, .int .u64 100000000000000, .int .u64 1000000000000000, .int .u64 10000000000000000, .int .u64 100000000000000000, .int .u64 1000000000000000000, .int .u64 10000000000000000000])).modify 3 (KK #[.int .u8 0, .int .u8 1, .int .u8 28, .int .u8 2, .int .u8 29, .int .u8 14, .int .u8 24, .int .u8 3, .int .u8 30, .int .u8 22, .int .u8 20, .int .u8 15, .int .u8 25, .int .u8 17, .int .u8 4, .int .u8 8, .int .u8 31, .int .u8 27, .int .u8 13, .int .u8 23, .int .u8 21, .int .u8 19, .int .u8 16, .int .u8 7, .int .u8 26, .int .u8 12, .int .u8 18, .int .u8 6, .int .u8 11, .int .u8 5, .int .u8 10, .int .u8 9]) }
