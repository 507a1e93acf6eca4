/- The block of (*table).features that ranges over a map. -/
import Derived.Test.YthppjmoncapdfaaGreatDoorAmB
import Derived.Test.YthppjmoncapdfaaGreatDoorClT
import Derived.Test.YthppjmoncapdfaaGreatDoorClQb
import Derived.Test.YthppjmoncapdfaaGreatDoorClG
import Derived.Test.YthppjmoncapdfaaGreatDoorClXb
import Derived.Test.YthppjmoncapdfaaGreatDoorCards
import Derived.Test.YthppjmoncapdfaaGreatDoorTie
import Derived.WalkKit
import Derived.ProofKit
import Derived.OpenShut
import Derived.Deep.DeepHandedRow
import Derived.Lib.LaidTab
import Derived.Stop.LaidErr
set_option linter.all false
set_option maxRecDepth 100000
open List (length)
namespace Go.Proofs.YthppjmoncapdfaaGreatDoor.cl
open Go Go.AM Go.RowKit
def HQ (h:Hint):Code->List Code
 | .seq a b=>match find h.blk (dU a) with
  |some _=>[.seq a b]
  |none=>HQ h a++HQ h b
 | .cond _ a b=>HQ h a++HQ h b
 | .block _ c=>HQ h c
 | .loop c=>HQ h c
 | .scope c=>HQ h c
 |_=>[]
def Zx {q:Qp} {B:Mu} {P:Program} {h:Hint} {N:Nat}:∀c:Code,(∀a b x,Code.seq a b∈HQ h c->find h.blk (dU a)=some x->Hx q B P N (.seq a b) x.1 x.2)->mE q B P h N c:=by intro c;induction c with
 |seq a b z D=>intro l;simp only[mE];simp only[HQ] at l;cases G:find h.blk (dU a) with
  |some x=>rw[G] at l;exact l a b x ah G
  |none=>rw[G] at l;exact⟨z λa b x w=>l a b x (dV _ w),D λa b x w=>l a b x (fN _ w)⟩
 |cond c a b z D=>intro l;exact⟨z λa b x w=>l a b x (dV _ w),D λa b x w=>l a b x (fN _ w)⟩
 |block id c F=>intro l;exact F l
 |loop c F=>intro l;exact F l
 |scope c F=>intro l;exact F l
 |_=>intro _;trivial
def F9 (id:Nat):Code->Option (Array Oper)
 | .region i l _=>bif Nat.beq i id then some l else none
 | .seq a b=>match F9 id a with
  |some x=>some x
  |none=>F9 id b
 | .cond _ a b=>match F9 id a with
  |some x=>some x
  |none=>F9 id b
 | .block _ c=>F9 id c
 | .loop c=>F9 id c
 | .scope c=>F9 id c
 |_=>none
noncomputable def HR:Code:=match P.funcs[173]? with
 |some fn=>fn.body.getD .skip
 |none=> .skip
noncomputable def bk:Code:=(HQ (H 173) HR).headD .skip
noncomputable def oo (id:Nat):Array Oper:=(F9 id bk).getD #[]
noncomputable def ck:Code:= .seq (.region 32 (oo 32) false) (.seq (.region 33 (oo 33) false) .ret)
noncomputable def rkC:Code:= .seq (.region 29 (oo 29) false) (.seq (.cond (.tmp 84) .skip (.exit 8)) (.block 9 (.seq (.region 30 (oo 30) false) (.region 31 (oo 31) false))))
def bk_eq:bk= .seq (.seq (.region 28 (oo 28) false) (.block 8 (.loop rkC))) ck:=by kernel_rfl
def blks_eq:HQ (H 173) HR=[bk]:=by kernel_rfl
structure Op (o:Oper) (d:Nat):Prop where
 dst:o.dst=some d
 guard:o.guard=none
def q28:∃x y,(oo 28).toList=[x,y]/\Op x 81/\x.op= .move (.tmp 3)/\Op y 82/\y.op= .range 220 (.tmp 81):=by refine⟨(oo 28)[0]'(by rw[show(oo 28).size=2 by kernel_rfl];decide),(oo 28)[1]'(by rw[show(oo 28).size=2 by kernel_rfl];decide),by kernel_rfl,⟨by kernel_rfl,by kernel_rfl⟩,by kernel_rfl,⟨by kernel_rfl,by kernel_rfl⟩,by kernel_rfl⟩
def q29:∃x y,(oo 29).toList=[x,y]/\Op x 83/\x.op= .next (.tmp 82) false/\Op y 84/\y.op= .extract (.tmp 83) 0:=by refine⟨(oo 29)[0]'(by rw[show(oo 29).size=2 by kernel_rfl];decide),(oo 29)[1]'(by rw[show(oo 29).size=2 by kernel_rfl];decide),by kernel_rfl,⟨by kernel_rfl,by kernel_rfl⟩,by kernel_rfl,⟨by kernel_rfl,by kernel_rfl⟩,by kernel_rfl⟩
def q30:∃x y z,(oo 30).toList=[x,y,z]/\Op x 85/\x.op= .entry (.tmp 82)/\Op y 86/\y.op= .extract (.tmp 85) 0/\Op z 14/\z.op= .assign (.tmp 86):=by refine⟨(oo 30)[0]'(by rw[show(oo 30).size=3 by kernel_rfl];decide),(oo 30)[1]'(by rw[show(oo 30).size=3 by kernel_rfl];decide),(oo 30)[2]'(by rw[show(oo 30).size=3 by kernel_rfl];decide),by kernel_rfl,⟨by kernel_rfl,by kernel_rfl⟩,by kernel_rfl,⟨by kernel_rfl,by kernel_rfl⟩,by kernel_rfl,⟨by kernel_rfl,by kernel_rfl⟩,by kernel_rfl⟩
def q31:∀o∈(oo 31).toList,o.dst≠some 82:=by
 have h:((oo 31).toList.all λo=>match o.dst with|some d=> !Nat.beq d 82|none=>true)=true:=by kernel_rfl
 intro o l e;have:=cz.1 h o l;rw[e] at this;cases this
def ul220:P.underlying 220=some (.map 9 4):=by kernel_rfl
def Nv (q w z D:Ob) (l:List (List UInt8)):List (Nat×Ob):=[(10000,q),(10001,w),(20002, .row 9 1 (l.map jv)),(20003,z),(20004,D)]
def stL (q w z D:Ob) (l:List (List UInt8)):St:={ env:=find [(0, .ptr 10000 0)],ob:=find (Nv q w z D l) }
def YH (q w z D:Ob) (l:List (List UInt8)) (s:List UInt8):St:={ env:=find [(0, .ptr 10000 0),(14, .pv (.str s))],ob:=find (Nv q w z D l) }
def pick (e:Ex) (l:St):Option (Ex×Option SV×Option SV×List (Option Ob)):=some (e,l.env 0,l.env 2,[l.ob 10000,l.ob 10001,l.ob 20002,l.ob 20003,l.ob 20004])
abbrev Gy (v0 v1:AV):Ob:= .box 171 [.pv v0, .pv v1, .row 10001, .row 20002, .row 20003, .row 20004]
def ex31 (v0 v1:AV) (a1 a2:List AV) (y3 y4:List (List AV)) (l:List (List UInt8)) (s:List UInt8):
  od P nM (H 173) eX (.region 31 (oo 31) false) (YH (Gy v0 v1) (.mp 9 3 a1 a2) (.row 3 1 y3) (.row 114 1 y4) l s) pick=
   check ((length (l.map jv)+length [[AV.str s]]) *16<=140737488355328/\length (l.map jv)+length [[AV.str s]]<=4611686018427387904)
    (some (.normal,some (.ptr 10000 0),none,[some (Gy v0 v1),some (.mp 9 3 a1 a2),some (.row 9 1 (l.map jv++[[AV.str s]])),some (.row 3 1 y3),some (.row 114 1 y4)])):=by kernel_rfl
def ex32 (v0 v1:AV) (a1 a2:List AV) (y3 y4:List (List AV)) (l:List (List UInt8)):
  od P nM (H 173) eX ck (stL (Gy v0 v1) (.mp 9 3 a1 a2) (.row 3 1 y3) (.row 114 1 y4) l) pick=
   Dl (eX 180 [.row 10000] [(10000, .row 9 1 (l.map jv))]) 10000 9 1 (λr c=>rU Q18 r λ_=>rU (List.map jv) c λxs=>(some (.ret,some (.ptr 10000 0),some (.pv (.int .i64 0)),[some (Gy v0 v1),some (.mp 9 3 a1 a2),some (.row 9 1 (xs.map jv)),some (.row 3 1 y3),some (.row 114 1 y4)]))):=by kernel_rfl
end Go.Proofs.YthppjmoncapdfaaGreatDoor.cl
set_option maxRecDepth 100000
namespace Go.Proofs.YthppjmoncapdfaaGreatDoor.cl
open Go Go.AM Go.RowKit
theorem cu {a:Act} {i:Nat} {v:Value} (h:i<a.tmps.size):(a.put (some i) v).tmps[i]? =some v:=by simp[Act.put,h]
theorem bu {a:Act} {i j:Nat} {v:Value} (h:i≠j):(a.put (some i) v).tmps[j]? =a.tmps[j]? :=by simp[Act.put,um,h]
def kI {a:Act} {i:Nat} {v:Value}:(a.put (some i) v).tmps.size=a.tmps.size:=by simp[Act.put]
def Ip {a:Act} {i:Nat} {v:Value} (h:a.tmps[i]? =some v):a.eval (.tmp i)=v:=by obtain⟨l,e⟩:=eE.1 h;simp[Act.eval,Array.getD,l,e]
def guard74 {l:St} (q:Qm l=true):∃(w K:List AV) (xs:List (List AV)) (v0 v1:AV) (a1 a2:List AV) (y3 y4:List (List AV)),
  l.env 0=some (.ptr 10000 0)/\l.env 3=some (.row 15)/\l.ob 10000=some (Gy v0 v1)/\l.ob 15=some (.mp 9 4 w K)/\l.ob 20002=some (.row 9 1 xs)/\l.ob 10001=some (.mp 9 3 a1 a2)/\l.ob 20003=some (.row 3 1 y3)/\l.ob 20004=some (.row 114 1 y4)/\S5 xs w=true:=by
 unfold Qm at q;split at q
 .rename_i z F I;split at q
  .rename_i e15 D e1 G H;exact⟨_,_,_,_,_,_,_,_,_,z,F,I,e15,D,e1,G,H,q⟩
  .cases q
 .cases q
def S6 {xs:List (List AV)} {l:List AV} (h:S5 xs l=true):xs=(xs.map Ar).map jv/\l=(l.map strOf).map AV.str/\xs.length+l.length<=1073741824:=by
 unfold S5 at h;simp only[aJ,cz] at h;obtain⟨⟨w,z⟩,D⟩:=h;refine⟨?_,?_,dw D⟩
 .rw[eV];refine(jX xs).symm.trans (gT λx q=> ?_);have:=w x q;unfold FU at this;split at this
  .rename_i y;unfold isStr at this;split at this
   .rfl
   .cases this
  .cases this
 .rw[eV];refine(jX l).symm.trans (gT λx q=> ?_);have:=z x q;unfold isStr at this;split at this
  .rfl
  .cases this
def wU (e:MapEntry):List UInt8:=match e.key with
 | .string s=>s.data.toList
 |_=>[]
def keys_of {N:Mu}:∀{Y:List (List UInt8)} {l:List MapEntry},cn N (Y.map AV.str) (l.map (·.key))->l.map wU=Y/\∀e∈l,e.key= .string ⟨(wU e).toArray⟩:=by intro Y;induction Y with
 |nil=>
  intro l h;have H:l.map (·.key)=[]:=by rw[dR,cn] at h;exact h
  have:l=[]:=List.map_eq_nil_iff.1 H
  subst this;exact⟨rfl,λe I=>by cases I⟩
 |cons y Y K=>intro l h;rw[aS,cn] at h;obtain⟨u,O,e,F,q⟩:=h;cases l with
  |nil=>cases e
  |cons x l=>
   rw[aS] at e;injection e with e1 G;rw[rep] at F;subst F;rw[<-G] at q;obtain⟨a,b⟩:=K q;have D:wU x=y:=by unfold wU;rw[e1]
   refine⟨by rw[aS,a,D],λz w=> ?_⟩;rcases aG.1 w with rfl|w
   .rw[D,e1]
   .exact b z w
def TW {l m:List (List UInt8)} (h:l.Perm m):lD Op.bytesLess l=lD Op.bytesLess m:=by
 obtain⟨s1,D⟩:=td Op.bytesLess (λa b h=>sZ h) EH l;obtain⟨s2,F⟩:=td Op.bytesLess (λa b h=>sZ h) EH m;refine AE ((D.trans h).trans F.symm) s1 s2 λx _ y _ w z=> ?_
 apply dz;intro q;have:=zP _ _ w q;rw[z] at this;cases this
def DR {q D:Type} {f:q->D}:∀{l:List q},(l.map f).Nodup->l.Nodup:=by intro l;induction l with
 |nil=>intro _;simp
 |cons x l z=>intro h;rw[aS,fA] at h;rw[fA];exact⟨λw=>h.1 (aD.2 ⟨x,w,rfl⟩),z h.2⟩
def ZC {l:List MapEntry} (h:(l.map (·.born)).Nodup):∀x∈l,∀y∈l,x.born=y.born->x=y:=by induction l with
 |nil=>intro x z;cases z
 |cons a l F=>
  rw[aS,fA] at h;intro x z y D e;rcases aG.1 z with rfl|w
  .rcases aG.1 D with rfl|q
   .rfl
   .exact absurd (aD.2 ⟨y,q,e.symm⟩) h.1
  .rcases aG.1 D with rfl|q
   .exact absurd (aD.2 ⟨x,w,e⟩) h.1
   .exact F h.2 x w y q e
def hb32:find (H 173).blk (dU (.region 32 (oo 32) false))=none:=by kernel_rfl
def hb33:find (H 173).blk (dU (.region 33 (oo 33) false))=none:=by kernel_rfl
def ck_blk {q:Qp} {B:Mu}:mE q B P (H 173) 102 ck:=by unfold ck;simp only[mE];rw[hb32];refine⟨trivial,?_⟩;rw[hb33];exact⟨trivial,trivial⟩
def ck_dst:nP 102 ck=true:=by kernel_rfl
def r31_dst:nP 102 (.region 31 (oo 31) false)=true:=by kernel_rfl
def dsts31:∀o∈(oo 31).toList,∀i,o.dst=some i->i<102:=by intro o q i l;have h:=r31_dst;simp only[nP,cz] at h;have:=h o q;simpa[l,cD] using this
def YJ:∀(l:List (List UInt8)),strs (l.map jv)=some l:=by intro l;induction l with
 |nil=>rfl
 |cons s l q=>simp[jv,strs] at *;rw[q]
def prim43 {l:List (List UInt8)} (w:l.length<=1073741824):eX 180 [.row 10000] [(10000, .row 9 1 (l.map jv))]=some (.lR [],[(10000, .row 9 1 ((lD Op.bytesLess l).map jv))]):=by have q:Nat.ble l.length 1073741824=true:=ij w;simp only[eX,WO,YJ,q,ai]
section
variable {B:Mu} (rY:fQ False B P eX) (zY:P.follows .mixedOrders=true) {w0:World} {μ0:Mu} {L:rV} (hq:L.q=False) (hB:B.le μ0)
include rY zY hq hB
theorem fin74 {v0 v1:AV} {a1 a2:List AV} {y3 y4:List (List AV)} {l:List (List UInt8)} (hl:l.length<=1073741824) {Q:Mu} {G:Nat->Value} {a:Act} {w:World}
  (V:Rel 102 w0 μ0 L Q G (stL (Gy v0 v1) (.mp 9 3 a1 a2) (.row 3 1 y3) (.row 114 1 y4) l) a w):
  ck.wp P (Vm 102 w0 μ0 L .ret { env:=find [(2, .pv (.int .i64 0))],ob:=find (Nv (Gy v0 v1) (.mp 9 3 a1 a2) (.row 3 1 y3) (.row 114 1 y4) (lD Op.bytesLess l)) }) a w:=by
 have z:=ex32 v0 v1 a1 a2 y3 y4 l;rw[prim43 hl,FI] at z;rw[show(AV.lR []:AV)=Q18 () from rfl,je,je] at z;obtain⟨n,e,I,U,K⟩:=vF ck z;unfold pick at K;simp only[aN,bB,dN,fG] at K;obtain⟨rfl,_,R,o0,o1,o2,o3,o4⟩:=K;refine wp_mono (tS.1 (Iq hB (by rw[hq];exact rY.mono hB) zY n ck _ _ _ ck_dst ck_blk U Q G a w V _ Wd.wide (.inl rfl))) ?_;rintro e' a' w' ⟨rfl,O,H,S⟩;refine⟨rfl,O,H,S.sub (λi sv D=> ?_) (λid o D=> ?_)⟩
 .simp only[find] at D;cases q:Nat.beq 2 i with
  |true=>rw[q,ai] at D;rw[<-gz q,R];exact D
  |false=>rw[q,aA] at D;cases D
 .have key:∀(l:List (Nat×Ob)),(∀p∈l,I.ob p.1=some p.2)->∀id o,find l id=some o->I.ob id=some o:=by
   intro l;induction l with
   |nil=>intro _ id o h;cases h
   |cons p l ih=>intro F id o h;simp only[find] at h;cases q:Nat.beq p.1 id with
    |true=>rw[q,ai] at h;rw[<-gz q,F p ah];exact h
    |false=>rw[q,aA] at h;exact ih (λp N=>F p (by simp[N])) id o h
  refine key _ ?_ id o D;intro p F;simp only[Nv,aG,eL,eS] at F;rcases F with rfl|rfl|rfl|rfl|rfl
  .exact o0
  .exact o1
  .exact o2
  .exact o3
  .exact o4
theorem DP {w z D F:Ob} {l:List (List UInt8)} {id:Nat} {o:Ob} (h:find (Nv w z D F l) id=some o):(id,o)∈Nv w z D F l:=by
 have key:∀(l:List (Nat×Ob)),find l id=some o->(id,o)∈l:=by intro l;induction l with
  |nil=>intro h;cases h
  |cons p l G=>intro h;obtain⟨k,x⟩:=p;simp only[find] at h;cases q:Nat.beq k id with
   |true=>rw[q,ai] at h;injection h with h;rw[<-gz q,h];simp
   |false=>rw[q,aA] at h;exact eo _ (G h)
 exact key _ h
theorem aak {q w z D:Ob} {l:List (List UInt8)} {f:Nat->Option Ob} (F:f 10000=some q) (G:f 10001=some w) (H:f 20002=some (.row 9 1 (l.map jv))) (I:f 20003=some z) (K:f 20004=some D):
  ∀id o,find (Nv q w z D l) id=some o->f id=some o:=by
 intro id o h;have:=DP rY zY hq hB h;simp only[Nv,aG,eL,eS,bB] at this;rcases this with⟨rfl,rfl⟩|⟨rfl,rfl⟩|⟨rfl,rfl⟩|⟨rfl,rfl⟩|⟨rfl,rfl⟩
 .exact F
 .exact G
 .exact H
 .exact I
 .exact K
omit rY zY hq hB in
theorem env0 {s:SV} {i:Nat} {q:SV} (h:find [(0,s)] i=some q):i=0/\q=s:=by simp only[find] at h;cases l:Nat.beq 0 i with
 |true=>rw[l,ai] at h;injection h with h;exact⟨(gz l).symm,h.symm⟩
 |false=>rw[l,aA] at h;cases h
theorem app74 {v0 v1:AV} {a1 a2:List AV} {y3 y4:List (List AV)} {l:List (List UInt8)} {s:List UInt8} (hl:l.length<=1073741824) {I:Mu} {D:Nat->Value} {a:Act} {w:World} {U:Value} (h82:a.tmps[82]? =some U)
  (hR:Rel 102 w0 μ0 L I D (YH (Gy v0 v1) (.mp 9 3 a1 a2) (.row 3 1 y3) (.row 114 1 y4) l s) a w):
  (Code.region 31 (oo 31) false).wp P (λe F H=>e= .normal/\F.tmps[82]? =some U/\∃z q,Rel 102 w0 μ0 L z q (stL (Gy v0 v1) (.mp 9 3 a1 a2) (.row 3 1 y3) (.row 114 1 y4) (l++[s])) F H/\
   (∀id o,find (Nv (Gy v0 v1) (.mp 9 3 a1 a2) (.row 3 1 y3) (.row 114 1 y4) (l++[s])) id=some o->∀g,jw (q id) g->w.heap.size<=g\/∃R o',find (Nv (Gy v0 v1) (.mp 9 3 a1 a2) (.row 3 1 y3) (.row 114 1 y4) l) R=some o'/\jw (D R) g)/\
   (∀b,b<w.heap.size->(∀id o,find (Nv (Gy v0 v1) (.mp 9 3 a1 a2) (.row 3 1 y3) (.row 114 1 y4) l) id=some o->¬jw (D id) b)->H.heap[b]? =w.heap[b]?)/\
   (∀b j,b<w.heap.size->I b j=none->z b j=none)) a w:=by
 have N:=ex31 v0 v1 a1 a2 y3 y4 l s;rw[bh (by rw[aV];simp only[bg,er];omega)] at N;obtain⟨n,e,st',h1,h2⟩:=vF (.region 31 (oo 31) false) N;unfold pick at h2;simp only[aN,bB,dN,fG] at h2;obtain⟨rfl,e0,_,o0,o1,o2,o3,o4⟩:=h2
 have hI:=hR.into (λid o h=>by
  have:=DP rY zY hq hB h;simp only[Nv,aG,eL,eS,bB] at this
  rcases this with⟨rfl,rfl⟩|⟨rfl,rfl⟩|⟨rfl,rfl⟩|⟨rfl,rfl⟩|⟨rfl,rfl⟩<;>exact⟨af,λk e s ks vs h=>by cases h⟩)
 have G:fQ (N6 (YH (Gy v0 v1) (.mp 9 3 a1 a2) (.row 3 1 y3) (.row 114 1 y4) l s).ob D L.q).q I P eX:=by show fQ L.q I P eX;rw[hq];exact rY.mono (hB.trans hR.base.1)
 have hw:=NS (Q:=λe F H=>e= .normal/\∃z q,Rel 102 w I (N6 (YH (Gy v0 v1) (.mp 9 3 a1 a2) (.row 3 1 y3) (.row 114 1 y4) l s).ob D L.q) z q st' F H) G dsts31 h1 hI (λF H z q h=>⟨rfl,z,q,h⟩);have hw2:=Sv _ a w q31 h82 hw;refine tS.1 (kU (wpIn_region_list hw2) ?_);rintro e F H ⟨⟨rfl,z,q,K⟩,ht⟩;have hR2:Rel 102 w I (N6 (YH (Gy v0 v1) (.mp 9 3 a1 a2) (.row 3 1 y3) (.row 114 1 y4) l s).ob D L.q) z q (stL (Gy v0 v1) (.mp 9 3 a1 a2) (.row 3 1 y3) (.row 114 1 y4) (l++[s])) F H:=
  K.sub (λi sv hi=>by
   obtain⟨rfl,rfl⟩:=env0 hi
   exact e0) (aak rY zY hq hB o0 o1 (by rw[o2,bM];rfl) o3 o4)
 obtain⟨⟨S,X4,Pt⟩,hb3⟩:=hR.back hR2 (names:=[10000,10001,20002,20003,20004]) (λid=>by
  constructor
  .intro V;obtain⟨o,Q⟩:=kn.1 V;have:=DP rY zY hq hB Q;simp only[Nv,aG,eL,eS,bB] at this;rcases this with⟨rfl,_⟩|⟨rfl,_⟩|⟨rfl,_⟩|⟨rfl,_⟩|⟨rfl,_⟩<;>simp
  .intro V;simp only[aG,eL,eS] at V
   rcases V with rfl|rfl|rfl|rfl|rfl<;>rfl) (λid o Q=>by
  have:=DP rY zY hq hB Q;simp only[Nv,aG,eL,eS,bB] at this;rcases this with⟨rfl,rfl⟩|⟨rfl,rfl⟩|⟨rfl,rfl⟩|⟨rfl,rfl⟩|⟨rfl,rfl⟩
  .exact⟨ah,rfl,rfl⟩
  .exact⟨ah,rfl,rfl⟩
  .exact⟨ah,rfl,rfl⟩
  .exact⟨ah,rfl,rfl⟩
  .exact⟨ah,rfl,rfl⟩) (λi sv hi=>by
  obtain⟨rfl,rfl⟩:=env0 hi
  exact⟨rfl,rfl⟩)
 refine⟨rfl,ht rfl,z,S,X4,λid o Q g hg=>Pt id o Q g hg,λb O hno=>hb3 b O hno,λb j O hm=> ?_⟩;cases hv:z b j with
 |none=>rfl
 |some v=>
  rcases K.base.2 b j v hv with h|h
  .rw[hm] at h;cases h
  .omega
end
end Go.Proofs.YthppjmoncapdfaaGreatDoor.cl
set_option maxRecDepth 100000
namespace Go.Proofs.YthppjmoncapdfaaGreatDoor.cl
open Go Go.AM Go.RowKit
def Inv9 (w0:World) (μ0:Mu) (L:rV) (v0 v1:AV) (a1 a2:List AV) (y3 y4:List (List AV)) (X:List (List UInt8)) (r b:Nat) (cN:Array MapEntry) (clock:Nat) (a:Act) (w:World):Prop:=
 ∃(D:Mu) (q:Nat->Value) (z:List MapEntry) (l:Array Nat) (c:Nat),
  Rel 102 w0 μ0 L D q (stL (Gy v0 v1) (.mp 9 3 a1 a2) (.row 3 1 y3) (.row 114 1 y4) (X++z.map wU)) a w/\
  a.tmps[82]? =some (.pointer (some ⟨r,0,none⟩))/\w.heap[b]? =some (.map cN clock)/\w.heap[r]? =some (.mapIter (some b) clock l c)/\clock<=c/\(∀j,D r j=none)/\
  (∀id o,find (Nv (Gy v0 v1) (.mp 9 3 a1 a2) (.row 3 1 y3) (.row 114 1 y4) (X++z.map wU)) id=some o->¬jw (q id) r/\¬jw (q id) b)/\
  (∀e∈z,e∈cN.toList)/\(z.map (·.born)).Nodup/\(∀n,l.contains n=true↔n∈z.map (·.born))
def Ls (r:Nat) (cN:Array MapEntry) (w:World):Nat:=match w.heap[r]? with
 |some (.mapIter _ _ l _)=>(leftOf cN l).size
 |_=>0
def Ft {P:Program} {o:Oper} {a:Act} {w w':World} {K:Act->World->Prop} {Q:Exit->Act->World->Prop} {v:Value} (q:(execOp a.eval o).run P w= .ok (.value v) w') (l:K (a.put o.dst v) w'):o.wp P a w K Q:=by unfold Oper.wp;rw[q];exact l
def wp_assign {P:Program} {o:Oper} {a:Act} {w:World} {K:Act->World->Prop} {Q:Exit->Act->World->Prop} {d i:Nat} {v:Value} (z:o.dst=some d) (l:o.op= .move (.tmp i)\/o.op= .assign (.tmp i)) (h:a.tmps[i]? =some v) (q:K (a.put (some d) v) w):o.wp P a w K Q:=by refine Ft (v:=v) (w':=w) ?_ (by rw[z];exact q);unfold execOp;rcases l with l|l<;>rw[l]<;>simp[Ip h]
def CC {P:Program} {o:Oper} {a:Act} {w:World} {K:Act->World->Prop} {Q:Exit->Act->World->Prop} {d i j:Nat} {l:Array Value} {v:Value} (z:o.dst=some d) (D:o.op= .extract (.tmp i) j) (h:a.tmps[i]? =some (.tuple l)) (F:l[j]? =some v) (q:K (a.put (some d) v) w):o.wp P a w K Q:=by refine Ft (v:=v) (w':=w) ?_ (by rw[z];exact q);unfold execOp;rw[D];simp[Ip h,Instr.extract,F]
def Hw {P:Program} {o:Oper} {a:Act} {w w':World} {K:Act->World->Prop} {Q:Exit->Act->World->Prop} {d:Nat} {v:Value} {s:Sem Value} (q:o.dst=some d) (z:execOp a.eval o=(do pure (.value (<-s)))) (D:s.run P w= .ok v w') (l:K (a.put (some d) v) w'):o.wp P a w K Q:=by refine Ft (v:=v) (w':=w') ?_ (by rw[q];exact l);rw[z];simp[D]
section
variable {B:Mu} (rY:fQ False B P eX) (zY:P.follows .mixedOrders=true) {w0:World} {μ0:Mu} {L:rV} (hq:L.q=False) (hB:B.le μ0)
include rY zY hq hB
variable {v0 v1:AV} {a1 a2:List AV} {y3 y4:List (List AV)} {X Y:List (List UInt8)} {r b:Nat} {cN:Array MapEntry} {clock:Nat}
theorem round74 (TR:w0.heap.size<=r) (hrb:r≠b) (G:Xr cN clock) (hkey:∀e∈cN.toList,e.key= .string ⟨(wU e).toArray⟩) (hY:cN.toList.map wU=Y) (hlen:X.length+Y.length<=1073741824) {a:Act} {w:World}
  (hI:Inv9 w0 μ0 L v0 v1 a1 a2 y3 y4 X r b cN clock a w):
  rkC.wp P (Exit.then (λa' w'=>Inv9 w0 μ0 L v0 v1 a1 a2 y3 y4 X r b cN clock a' w'/\Ls r cN w'<Ls r cN w) (λe a' w'=>e= .exit 8/\∃μ loc l,(lD Op.bytesLess l=lD Op.bytesLess (X++Y)/\l.length<=1073741824)/\
   Rel 102 w0 μ0 L μ loc (stL (Gy v0 v1) (.mp 9 3 a1 a2) (.row 3 1 y3) (.row 114 1 y4) l) a' w')) a w:=by
 obtain⟨μ,loc,V,D,c,hR,h82,hb,hr,hc,xD,hno,Q,hnd,I⟩:=hI;have U:a.tmps.size=102:=hR.size;have hperm:V.Nodup:=DR hnd;have hentnd:cN.toList.Nodup:=DR G.2;have heslen:V.length<=cN.toList.length:=by
  have:=jd (l:=V.map (·.born)) (m:=cN.toList.map (·.born)) hnd (λx hx=>by
   obtain⟨e,he,rfl⟩:=aD.1 hx
   exact aD.2 ⟨e,Q e he,rfl⟩)
  simpa using this
 have hYl:Y.length=cN.toList.length:=by rw[<-hY,aV]
 unfold rkC;refine oR (ye ?_);obtain⟨x,y,e29,dx,hx,dy,hy⟩:=q29;rw[e29];have hev:execOp a.eval x=(do pure (.value (<-Instr.next (.pointer (some ⟨r,0,none⟩)) false x.type))):=by unfold execOp;rw[hx];simp only[Ip h82]
 rcases run_next_at (P:=P) w x.type r b clock c D cN clock hr hb G.1 hc with⟨h0,O⟩|⟨e,he,R,hal,O⟩
 ·
  refine j7 dx.guard λK S=>Hw dx.dst hev O (S _ _ ?_)
  refine j7 dy.guard λK S=>CC dy.dst hy (cu (by rw[U];omega)) (v:= .bool false) ah (S _ _ (uo ?_))
  show Code.wp P _ _ _ _;refine oR (wp_cond_false (Ip (cu (by rw[kI,U];omega))) (wp_exit ?_));show Exit.exit 8= .exit 8/\_;have hp:(X++V.map wU).Perm (X++Y):=by
   rw[<-hY];refine List.Perm.append_left _ (List.Perm.map _ ?_);refine(List.perm_ext_iff_of_nodup hperm hentnd).2 λz=>⟨Q z,λhz=> ?_⟩
   have hs:=all_seen cN D h0 z hz;obtain⟨z',hz',e'⟩:=aD.1 ((I _).1 hs);have:=ZC G.2 z' (Q z' hz') z hz e';rw[<-this];exact hz'
  refine⟨rfl,μ,loc,X++V.map wU,⟨TW hp,by rw[cS,aV];omega⟩,hR.re ?_ hR.defers (λi sv hi=> ?_) λid o h=>h⟩
  .rw[kI,kI,U]
  .obtain⟨rfl,rfl⟩:=env0 hi;rw[bu af,bu af];exact hR.env 0 _ rfl
 ·
  obtain⟨hem,hes⟩:=mem_left he;have hnew:e.born∉V.map (·.born):=λhm=>by rw[(I _).2 hm] at hes;cases hes
  have aaA:∀R:World,(R=w\/R=w.drew)->R.heap=w.heap:=by rintro R (rfl|rfl)<;>rfl
  have hh1:=aaA R hal;have X9:R.heap[r]? =some (.mapIter (some b) clock D c):=by rw[hh1];exact hr
  have hst:=MapKept.heap_set (o':= .mapIter (some b) clock (D.push e.born) clock) X9;have hR2:Rel 102 w0 μ0 L μ loc (stL (Gy v0 v1) (.mp 9 3 a1 a2) (.row 3 1 y3) (.row 114 1 y4) (X++V.map wU)) a (Go.ChangeMaps.setBlock R r (.mapIter (some b) clock (D.push e.born) clock)):=by
   refine hR.aside TR xD (λid o h=>(hno id o h).1) (λb' hne=> ?_) ?_ ?_ ?_ ?_ ?_
   .show(R.heap.setIfInBounds r _)[b']? =_;rw[hst.2 b' hne,hh1]
   .rcases hal with rfl|rfl<;>rfl
   .rcases hal with rfl|rfl<;>rfl
   .rcases hal with rfl|rfl<;>rfl
   .show(R.heap.setIfInBounds r _).size=_;rw[Array.size_setIfInBounds,hh1]
   .rcases hal with rfl|rfl
    .exact aU _
    .exact zG _
  have VY:(Go.ChangeMaps.setBlock R r (.mapIter (some b) clock (D.push e.born) clock)).heap[r]? =some (.mapIter (some b) clock (D.push e.born) clock):=hst.1;have Pt:(Go.ChangeMaps.setBlock R r (.mapIter (some b) clock (D.push e.born) clock)).heap[b]? =some (.map cN clock):=by show(R.heap.setIfInBounds r _)[b]? =_;rw[hst.2 b (λe=>hrb e.symm),hh1];exact hb
  generalize Go.ChangeMaps.setBlock R r (.mapIter (some b) clock (D.push e.born) clock)=w2 at O hR2 VY Pt;refine j7 dx.guard λK S=>Hw dx.dst hev O (S _ _ ?_)
  refine j7 dy.guard λK S=>CC dy.dst hy (cu (by rw[U];omega)) (v:= .bool true) ah (S _ _ (uo ?_))
  show Code.wp P _ _ _ _;refine oR (wp_cond_true (Ip (cu (by rw[kI,U];omega))) (wp_skip ?_));show Code.wp P _ _ _ _;refine wp_block (oR (ye ?_));obtain⟨p,q,s,e30,dp,hp,dq,hqq,ds,hs⟩:=q30;rw[e30];have h82':(((a.put (some 83) (.tuple #[.bool true,e.key,e.val])).put (some 84) (.bool true))).tmps[82]? =some (.pointer (some ⟨r,0,none⟩)):=by rw[bu af,bu af];exact h82
  have H:(((a.put (some 83) (.tuple #[.bool true,e.key,e.val])).put (some 84) (.bool true))).tmps.size=102:=by rw[kI,kI,U]
  have h0':(((a.put (some 83) (.tuple #[.bool true,e.key,e.val])).put (some 84) (.bool true))).tmps[0]? =a.tmps[0]? :=by rw[bu af,bu af]
  have hd':(((a.put (some 83) (.tuple #[.bool true,e.key,e.val])).put (some 84) (.bool true))).defers=[]:=hR.defers;generalize ((a.put (some 83) (.tuple #[.bool true,e.key,e.val])).put (some 84) (.bool true))=c2 at h82' H h0' hd';have hev2:execOp c2.eval p=(do pure (.value (<-Instr.entry (.pointer (some ⟨r,0,none⟩))))):=by unfold execOp;rw[hp];simp only[Ip h82']
  refine j7 dp.guard λK S=>Hw dp.dst hev2 (run_entry_at w2 r b clock D cN clock e VY Pt hem G.2) (S _ _ ?_)
  refine j7 dq.guard λK S=>CC dq.dst hqq (cu (by rw[H];omega)) (v:=e.key) ah (S _ _ ?_)
  refine j7 ds.guard λK S=>wp_assign ds.dst (.inr hs) (v:=e.key) (cu (by rw[kI,H];omega)) (S _ _ (uo ?_))
  show Code.wp P _ _ _ _;have h82'':(((c2.put (some 85) (.tuple #[e.key,e.val])).put (some 86) e.key).put (some 14) e.key).tmps[82]? =some (.pointer (some ⟨r,0,none⟩)):=by rw[bu af,bu af,bu af];exact h82'
  have hsz'':(((c2.put (some 85) (.tuple #[e.key,e.val])).put (some 86) e.key).put (some 14) e.key).tmps.size=102:=by rw[kI,kI,kI,H]
  have h0'':(((c2.put (some 85) (.tuple #[e.key,e.val])).put (some 86) e.key).put (some 14) e.key).tmps[0]? =a.tmps[0]? :=by rw[bu af,bu af,bu af];exact h0'
  have h14'':(((c2.put (some 85) (.tuple #[e.key,e.val])).put (some 86) e.key).put (some 14) e.key).tmps[14]? =some e.key:=cu (by rw[kI,kI,H];omega);have hd'':(((c2.put (some 85) (.tuple #[e.key,e.val])).put (some 86) e.key).put (some 14) e.key).defers=[]:=hd';generalize (((c2.put (some 85) (.tuple #[e.key,e.val])).put (some 86) e.key).put (some 14) e.key)=a3 at h82'' hsz'' h0'' h14'' hd'';have hR3:Rel 102 w0 μ0 L μ loc (YH (Gy v0 v1) (.mp 9 3 a1 a2) (.row 3 1 y3) (.row 114 1 y4) (X++V.map wU) (wU e)) a3 w2:=by
   refine hR2.re hsz'' hd'' (λi sv hi=> ?_) λid o h=>h
   have F:find [(0,SV.ptr 10000 0),(14,SV.pv (.str (wU e)))] i=some sv:=hi;simp only[find] at F;cases h0b:Nat.beq 0 i with
   |true=>rw[h0b,ai] at F;injection F with F;rw[<-gz h0b,<-F,h0''];exact hR.env 0 _ rfl
   |false=>rw[h0b,aA] at F;cases h1b:Nat.beq 14 i with
    |true=>rw[h1b,ai] at F;injection F with F;rw[<-gz h1b,<-F,h14''];exact⟨_,rfl,by show rep μ (.str (wU e)) e.key;rw[rep,hkey e hem]⟩
    |false=>rw[h1b,aA] at F;cases F
  have N:=app74 rY zY hq hB (s:=wU e) (by rw[cS,aV];omega) h82'' hR3;refine wp_mono N ?_;rintro ee a' w' ⟨rfl,k82,μ',loc',k1,k2,k3,k4⟩;have hrlt:r<w2.heap.size:=(eE.1 VY).1;have hblt:b<w2.heap.size:=(eE.1 Pt).1;have kr:w'.heap[r]? =some (.mapIter (some b) clock (D.push e.born) clock):=(k3 r hrlt λid o h=>(hno id o h).1).trans VY;show Inv9 w0 μ0 L v0 v1 a1 a2 y3 y4 X r b cN clock a' w'/\Ls r cN w'<Ls r cN w;have N:X++(V++[e]).map wU=(X++V.map wU)++[wU e]:=by rw[bM,<-eT];rfl
  refine⟨⟨μ',loc',V++[e],D.push e.born,clock,by rw[N];exact k1,k82,(k3 b hblt λid o h=>(hno id o h).2).trans Pt,kr,aU _,λj=>k4 r j hrlt (xD j),λid o h=> ?_,λz hz=> ?_,?_,λn=> ?_⟩,?_⟩
  .rw[N] at h;constructor
   .intro hin;rcases k2 id o h r hin with h1|⟨id',o',h1,h2⟩
    .omega
    .exact(hno id' o' h1).1 h2
   .intro hin;rcases k2 id o h b hin with h1|⟨id',o',h1,h2⟩
    .omega
    .exact(hno id' o' h1).2 h2
  .rcases bw.1 hz with hz|hz
   .exact Q z hz
   .rw[bX] at hz;rw[hz];exact hem
  .rw[bM,gW];refine⟨hnd,by simp,λx hx y hy=> ?_⟩;simp only[aS,dR,bX] at hy;rintro rfl;exact hnew (hy▸hx)
  .rw[contains_push,fq,I,bM,bw];simp only[aS,dR,bX,gj]
  .unfold Ls;rw[kr,hr];exact left_shrinks cN D e he
end
def Xz {B:Mu} (rY:fQ False B P eX) (zY:P.follows .mixedOrders=true):Hx False B P 102 bk Qm Ql:=by
 intro w0 μ0 L S z st a w hq hB hg q;obtain⟨ks,vs,xs,v0,v1,a1,a2,y3,y4,g0,g3,gb,G,g2,g1,g4,g5,hC⟩:=guard74 hg;obtain⟨hxs,hks,Q⟩:=S6 hC;obtain⟨b,cN,clock,hl,hown,hh,xD,h1,h2,H⟩:=q.obs 15 _ G;rw[hks] at h1;obtain⟨hY,O⟩:=keys_of h1;obtain⟨v3,ht3,hr3⟩:=q.env 3 _ g3;have hv3:v3= .map (some b):=by
  have:v3=fH (z 15):=hr3
  rw[this,hl];rfl
 subst hv3;have N:a.tmps.size=102:=q.size;have hF:Ql st=(1,{ env:=find [(2, .pv (.int .i64 0))],ob:=find (Nv (Gy v0 v1) (.mp 9 3 a1 a2) (.row 3 1 y3) (.row 114 1 y4) (lD Op.bytesLess (xs.map Ar++ks.map strOf))) }):=by unfold Ql;rw[G,g2,gb,g1,g4,g5];rfl
 rw[hF,bk_eq];refine oR (oR (ye ?_));obtain⟨x,y,e28,dx,hx,dy,hy⟩:=q28;rw[e28];refine j7 dx.guard λK hK=>wp_assign dx.dst (.inl hx) ht3 (hK _ _ ?_)
 have V:(a.put (some 81) (.map (some b))).tmps[81]? =some (.map (some b)):=cu (by rw[N];omega);have hev:execOp (a.put (some 81) (.map (some b))).eval y=(do pure (.value (<-Instr.range 220 (.map (some b))))):=by unfold execOp;rw[hy];simp only[Ip V]
 refine j7 dy.guard λK hK=>Hw dy.dst hev (run_range_map w 220 9 4 b cN clock ul220 hh) (hK _ _ (uo ?_))
 show Code.wp P _ _ _ _;have D:b<w.heap.size:=(eE.1 hh).1;have R:∀id o,find (Nv (Gy v0 v1) (.mp 9 3 a1 a2) (.row 3 1 y3) (.row 114 1 y4) (xs.map Ar)) id=some o->st.ob id=some o/\id≠15:=by
  intro id o h;have F:(id,o)∈Nv (Gy v0 v1) (.mp 9 3 a1 a2) (.row 3 1 y3) (.row 114 1 y4) (xs.map Ar):=DP rY zY hq hB h;simp only[Nv,aG,eL,eS,bB] at F;rcases F with⟨rfl,rfl⟩|⟨rfl,rfl⟩|⟨rfl,rfl⟩|⟨rfl,rfl⟩|⟨rfl,rfl⟩
  .exact⟨gb,by decide⟩
  .exact⟨g1,by decide⟩
  .exact⟨by rw[<-hxs];exact g2,by decide⟩
  .exact⟨g4,by decide⟩
  .exact⟨g5,by decide⟩
 have hR1:Rel 102 w0 μ0 L S z st a (w.alloc (.mapIter (some b) clock #[] clock)):=q.QE (qD w _);have hR2:Rel 102 w0 μ0 L S z (stL (Gy v0 v1) (.mp 9 3 a1 a2) (.row 3 1 y3) (.row 114 1 y4) (xs.map Ar++([]:List MapEntry).map wU)) ((a.put (some 81) (.map (some b))).put (some 82) (.pointer (some ⟨w.heap.size,0,none⟩))) (w.alloc (.mapIter (some b) clock #[] clock)):=by
  rw[dR,e7];refine hR1.re (by rw[kI,kI,N]) q.defers (λi sv hi=> ?_) λid o h=>(R id o h).1
  obtain⟨rfl,rfl⟩:=env0 hi;rw[bu af,bu af];exact q.env 0 _ g0
 refine wp_block (wp_loop (Inv9 w0 μ0 L v0 v1 a1 a2 y3 y4 (xs.map Ar) w.heap.size b cN clock) (λ_ w'=>Ls w.heap.size cN w') ?_ ?_)
 .refine⟨S,z,[], #[],clock,hR2,cu (by rw[kI,N];omega),?_,?_,aU _,λj=> ?_,λid o h=> ?_,λe he=>(by cases he),by simp,λn=>by simp⟩
  .show(w.heap.push _)[b]? =_;rw[Array.getElem?_push_lt D,<-vv D];exact hh
  .show(w.heap.push _)[w.heap.size]? =_;simp
  .cases hv:S w.heap.size j with
   |none=>rfl
   |some v=>have:=lQ (q.uy _ _ _ hv);omega
  .rw[dR,e7] at h;obtain⟨h3,h4⟩:=R id o h;refine⟨λI=> ?_,λI=> ?_⟩
   .have:=((q.obs id o h3).block _ I).2.1;omega
   .exact q.apart id 15 o _ h3 G h4 b I (by rw[hl];exact ur.2 rfl)
 .intro a' w' hI;refine wp_mono (round74 rY zY hq hB q.grown af H O hY (by rw[aV,aV];exact Q) hI) ?_;intro e a2 w2 h;cases e with
  |normal=>exact h
  |exit id=>obtain⟨U,μ',loc',l,⟨hs,hll⟩,hR'⟩:=h;injection U with U;subst U;show Code.wp P _ _ _ _;have:=fin74 rY zY hq hB hll hR';rw[hs] at this;exact this
  |goto l=>exact absurd h.1 ah
  |ret=>exact absurd h.1 ah
  |panic ch=>exact absurd h.1 ah
  |outgrown=>exact absurd h.1 ah
def Di {B:Mu} (rY:fQ False B P eX) (zY:P.follows .mixedOrders=true):∀f fn c,P.funcs[f]? =some fn->fn.body=some c->mE False B P (H f) fn.ntmps c:=by
 intro f fn c w F;by_cases h:f=173
 .subst h;have K:fn.ntmps=102:=by
   have:(P.funcs[173]?).map (·.ntmps)=some 102:=by kernel_rfl
   rw[w] at this;exact cU this
  have I:c=HR:=by
   have:HR=c:=by unfold HR;rw[w];show fn.body.getD Code.skip=c;rw[F];rfl
   exact this.symm
  rw[K,I];refine Zx _ λa b x G z=> ?_
  rw[blks_eq,bX] at G;rw[G];have D:dU a=28:=by
   have:Code.seq a b= .seq (.seq (.region 28 (oo 28) false) (.block 8 (.loop rkC))) ck:=G.trans bk_eq
   injection this with q O;rw[q];rfl
  rw[D] at z
  have:find (H 173).blk 28=some (Qm,Ql):=by kernel_rfl
  rw[this] at z;injection z with z;rw[<-z];exact Xz rY zY
 .refine mE.none ?_ c;have key:∀(l:List (Nat×Hint)),(l.all λp=>Nat.beq p.1 173||p.2.blk.isEmpty)=true->∀f,f≠173->((find l f).getD {}).blk=[]:=by
   intro l;induction l with
   |nil=>intro _ f _;rfl
   |cons p l N=>intro h f w;rw[gP,aJ,fq] at h;simp only[find];cases F:Nat.beq p.1 f with
    |true=>
     rw[ai];rcases h.1 with q|q
     .exact absurd ((gz F).symm.trans (gz q)) w
     .exact tR.1 q
    |false=>rw[aA];exact N h.2 f w
  exact key hints (by kernel_rfl) f h
end Go.Proofs.YthppjmoncapdfaaGreatDoor.cl
set_option maxRecDepth 100000
namespace Go.Proofs.YthppjmoncapdfaaGreatDoor.cl
open Go Go.AM Go.RowKit Go.ChangeShapes Go.WideShapes Go.ChangeAt
def own:ownKnob Tryz.prog.godebug=none:=by kernel_rfl
def gTab:Tryz.prog.globalNamed "math/bits.deBruijn64tab" =some 0:=by kernel_rfl
def aar:(Tryz.prog.globals[0]?).map (·.type)=some 265:=by kernel_rfl
def ZL:Tryz.prog.cellsOf 265=64:=by kernel_rfl
def cells5:Tryz.prog.cellsOf 5=1:=by kernel_rfl
def tableIs {W:World} (h:laidMetH Tryz.prog Rows.preferPartsRow.laid W):Lib.TabIs Tryz.prog W "math/bits.deBruijn64tab" .u8 [0,1,56,2,57,49,28,3,61,58,42,50,38,29,17,4,62,47,59,36,45,43,51,22,53,39,33,30,24,18,12,5,63,55,48,27,60,41,37,16,46,35,44,21,52,32,23,11,54,26,40,15,34,20,31,10,25,14,19,9,13,8,7,6]:=
 Lib.tabIs_of_head gTab aar Tryz.underlying265 Tryz.underlying5 cells5 ZL (laidMet.tail (show laidMet Tryz.prog Rows.preferPartsRow.laid W from h))
def Ev {W:World} (h:laidMetH Tryz.prog Rows.preferPartsRow.laid W):adk.le (UA W):=by
 intro b j v l;unfold adk at l;split at l
 .rename_i w;obtain⟨rfl,q⟩:=w;injection l with l;subst l;have:=(tableIs h).cell gTab j q;refine tu ?_ rfl;rw[this];have e:∀j,j<64->([0,1,56,2,57,49,28,3,61,58,42,50,38,29,17,4,62,47,59,36,45,43,51,22,53,39,33,30,24,18,12,5,63,55,48,27,60,41,37,16,46,35,44,21,52,32,23,11,54,26,40,15,34,20,31,10,25,14,19,9,13,8,7,6]:List Int).getD j 0=((Lib.deBruijn64tab.getD j 0:Nat):Int):=by decide
  rw[e j q]
 .cases l
def UU (q:Array Value):Obj->Obj
 | .cells _ t l=> .cells q t l
 |o=>o
noncomputable def jf (l:Os):World:=
 {World.holding Tryz.prog l ⟨#[], #[],[]⟩ with heap:=(((World.holding Tryz.prog l ⟨#[], #[],[]⟩).heap.modify 0 (UU #[.int .u8 0, .int .u8 1, .int .u8 56, .int .u8 2, .int .u8 57, .int .u8 49, .int .u8 28, .int .u8 3, .int .u8 61, .int .u8 58, .int .u8 42, .int .u8 50, .int .u8 38, .int .u8 29, .int .u8 17, .int .u8 4, .int .u8 62, .int .u8 47, .int .u8 59, .int .u8 36, .int .u8 45, .int .u8 43, .int .u8 51, .int .u8 22, .int .u8 53, .int .u8 39, .int .u8 33, .int .u8 30, .int .u8 24, .int .u8 18, .int .u8 12, .int .u8 5, .int .u8 63, .int .u8 55, .int .u8 48, .int .u8 27, .int .u8 60, .int .u8 41, .int .u8 37, .int .u8 16, .int .u8 46, .int .u8 35, .int .u8 44, .int .u8 21, .int .u8 52, .int .u8 32, .int .u8 23, .int .u8 11, .int .u8 54, .int .u8 26, .int .u8 40, .int .u8 15, .int .u8 34, .int .u8 20, .int .u8 31, .int .u8 10, .int .u8 25, .int .u8 14, .int .u8 19, .int .u8 9, .int .u8 13, .int .u8 8, .int .u8 7, .int .u8 6])).modify 1 (UU #[.int .u64 1, .int .u64 10, .int .u64 100, .int .u64 1000, .int .u64 10000, .int .u64 100000, .int .u64 1000000, .int .u64 10000000, .int .u64 100000000, .int .u64 1000000000, .int .u64 10000000000, .int .u64 100000000000, .int .u64 1000000000000, .int .u64 10000000000000, .int .u64 100000000000000, .int .u64 1000000000000000, .int .u64 10000000000000000, .int .u64 100000000000000000, .int .u64 1000000000000000000, .int .u64 10000000000000000000])).modify 3 (UU #[.int .u8 0, .int .u8 1, .int .u8 28, .int .u8 2, .int .u8 29, .int .u8 14, .int .u8 24, .int .u8 3, .int .u8 30, .int .u8 22, .int .u8 20, .int .u8 15, .int .u8 25, .int .u8 17, .int .u8 4, .int .u8 8, .int .u8 31, .int .u8 27, .int .u8 13, .int .u8 23, .int .u8 21, .int .u8 19, .int .u8 16, .int .u8 7, .int .u8 26, .int .u8 12, .int .u8 18, .int .u8 6, .int .u8 11, .int .u8 5, .int .u8 10, .int .u8 9]) }
