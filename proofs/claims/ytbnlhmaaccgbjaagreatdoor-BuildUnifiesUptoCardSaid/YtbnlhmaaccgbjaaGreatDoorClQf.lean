/- The Closure laws. -/
import Derived.Test.YtbnlhmaaccgbjaaGreatDoorClY
import Derived.Test.YtbnlhmaaccgbjaaGreatDoorClT
import Derived.WalkKit
import Derived.Lib.SliceRun
import Derived.Lib.Walk
import Derived.Shelf.RegionOpenPlain
import Derived.Deep.LoopGhost
import Derived.RangeFuncWrites
import Derived.RangeFuncLeaves
import Derived.RangeFuncBox
import Derived.RangeFuncNested
import Derived.OwnWalkIn
import Derived.TacticsInMore
import Derived.LoopNIn
import Derived.LoopIn
set_option linter.all false
namespace Go.Proofs.YtbnlhmaaccgbjaaGreatDoor.cl
open Go Go.AM Go.RowKit
def S6 (l:List (List UInt8)):(l.mergeSort λx y=>decide (x<=y))=tO Op.bytesLess l:=by
 have e:(λx y:List UInt8=>decide (x<=y))=λx y=> !Op.bytesLess y x:=by
  funext x y;rw[bytesLess_eq];by_cases h:y<x
  .have:¬x<=y:=λD=>D h
   simp[h,this]
  .have:x<=y:=h
   simp[h,this]
 rw[e];obtain⟨F,G⟩:=BB Op.bytesLess (λa b h=>Bj h) UG l;refine Ia ((List.mergeSort_perm l _).trans G.symm) ?_ F ?_
 .have:=List.pairwise_mergeSort (le:=λx y:List UInt8=> !Op.bytesLess y x) (λa b c q w=>by
   simp only[gW] at q w⊢;cases z:Op.bytesLess c a with
   |false=>rfl
   |true=>
    have:=UG _ _ _ z q
    rw[w] at this;cases this) (λa b=>by
   cases z:Op.bytesLess b a with
   |false=>simp
   |true=>simp[Bj z]) l
  refine this.imp ?_;intro a b h;simpa using h
 .intro x _ y _ q w;apply eB;intro B;have:=Bk _ _ q B;rw[w] at this;cases this
open Go.Sort in
def Kj {z:Type} [Inhabited z] {enc:z->Value} {w:World} {n g:Nat} {d:Array z} {os:Array Obj} {cur:Array Value} {e:TypeId} (B:w.heap[g]? =some (.cells cur e (0,0))):
  (grow (putRow enc (Sort.ahead w n) g 0 d) os).heap[g]? =some (.cells (putCells enc 0 d cur) e (0,0))/\(∀b,b<w.heap.size->b≠g->(grow (putRow enc (Sort.ahead w n) g 0 d) os).heap[b]? =w.heap[b]?)/\w.heap.size<=(grow (putRow enc (Sort.ahead w n) g 0 d) os).heap.size:=by
 have l:g<w.heap.size:=(gx.1 B).1;have F:(grow (putRow enc (Sort.ahead w n) g 0 d) os).heap=w.heap.modify g (onCells (putCells enc 0 d))++os:=rfl;rw[F];refine⟨?_,λb D q=> ?_,?_⟩
 .rw[uJ (by simpa using l),zn,aB rfl,B];rfl
 .rw[uJ (by simpa using D),zn,au (λh=>q h.symm)]
 .simp
open Go.Sort in
def T6 {w:Type} [Inhabited w] {enc:w->Value} {l:List w} {cur:Array Value} (h:l.length<=cur.size):(putCells enc 0 l.toArray cur).size=cur.size/\(putCells enc 0 l.toArray cur).toList.take l.length=l.map enc:=by
 refine⟨by simp[putCells],?_⟩;apply kZ;intro i;by_cases q:i<l.length
 .rw[oR,aB q,dN,aK q];have z:i<cur.size:=af;simp[putCells,q,z,aK q]
 .rw[gM aH,gM aH]
def Dq {H:Mu}:∀{l:List (List UInt8)} {z:List Value},cT H 1 (l.map oO) z↔z=l.map encStr:=by intro l;induction l with
 |nil=>intro z;exact Iff.rfl
 |cons s l D=>
  intro z;constructor
  .rintro⟨I,ws,rfl,w,_,F⟩;have q:=w.1;simp only[oO,cM] at q;obtain⟨u,G,rfl,B,rfl⟩:=q;rw[rep] at B;subst B;rw[D.1 F];rfl
  .rintro rfl;exact⟨[encStr s],l.map encStr,rfl,⟨⟨_,_,rfl,by rw[rep],rfl⟩,λu w=>by simp only[cv] at w;subst w;rfl⟩,rfl,D.2 rfl⟩
def NL {z:Mu} {l:Nat->Value} {w:World} {o:Ob} (q:Mb z w) (F:nv w.heap.size (iy False l [10000]) z l w 10000 o):fN False z l [10000] (.iQ []) [(10000,o)] w (.tuple #[]) z l w where
 ext:=Mu.ext.toL ⟨Mu.le.refl _,λ_ _ _ h=> .inl h⟩
 xZ:=q
 res:= .inl (by rw[rep.eq_def];exact⟨[],rfl,rfl⟩)
 obs:=λid K h=>by
  have B:=vQ h;subst B;have I:o=K:=by simpa[find] using h
  subst I;exact F
 apart:=λi j L N G H D=>absurd ((vQ G).trans (vQ H).symm) D
 keep:=λ_ _ _=>rfl
 fix:=λ_ _ _ _=>rfl
 os:=rfl
 tape:=rfl
 output:=rfl
 grown:=aU _
 drawn:=λh=>h.elim
def sort80 {μ:Mu} {z:Nat->Value} {w:World} {l:List (List UInt8)} (hlen:l.length<=1073741824) (D:Mb μ w) (Q:nv w.heap.size (iy False z [10000]) μ z w 10000 (.row 9 1 (l.map oO))):
  Calls P 186 #[z 10000] w λe I=>∃v μ' loc',e= .returned v/\fN False μ z [10000] (.iQ []) [(10000, .row 9 1 ((tO Op.bytesLess l).map oO))] w v μ' loc' I:=by
 have R:=Q;obtain⟨vs,U,hrc,hbl⟩:=R;have hvs:=Dq.1 hrc;rcases U.2 with⟨e1,h0⟩|⟨g,K,cur,e1,_,hg,B,O,V,q⟩
 .have hl:l=[]:=by
   cases l with
   |nil=>rfl
   |cons a b=>simp at h0
  subst hl;have hc:Calls P 186 #[.slice none 0 0] w λe I=>e= .returned (.tuple #[])/\I=w:=Any.slices_Sort_string_none Tryz.lays190 none 0 w
  rw[e1];refine hc.mono ?_;rintro e I ⟨rfl,rfl⟩;exact⟨_,μ,z,rfl,NL D Q⟩
 .have hll:(l.map oO).length=l.length:=ai;rw[hll] at e1 B q;rw[zo] at V q;rw[hvs] at q;have hin:lI (z 10000) g:=by rw[e1];exact ia.2 rfl
  obtain⟨G,C8⟩:=hbl g hin;have hlt:g<w.heap.size:=(gx.1 hg).1;have F:∀(j:Nat) (L:j<l.length),cur[j]? =some (encStr l[j]):=by
   intro j L;have h1:(cur.toList.take l.length)[j]? =some (encStr l[j]):=by rw[q,dN,aK L];rfl
   rw[oR,aB L] at h1;simpa using h1
  have hH:Go.Sort.Holds encStr w g 0 l.toArray:=by
   intro j L;have N:j<l.length:=by simpa using L
   have hcj:=F j N;rw[eO];refine⟨?_,?_⟩
   .unfold World.cell?;simp only[hg];simp[hcj,N]
   .unfold World.frozen?;simp[hg]
  have hc:Calls P 186 #[.slice (some ⟨g,0,none⟩) l.length K] w λe I=>e= .returned (.tuple #[])/\∃n os,I=Go.Sort.grow (Go.Sort.putRow encStr (Go.Sort.ahead w n) g 0 (l.mergeSort λx y=>decide (x<=y)).toArray) os:=Any.slices_Sort_string Tryz.lays190 g 0 K l w hH hlt af
  rw[e1];refine hc.mono ?_;rintro e I ⟨rfl,n,os,rfl⟩;rw[S6];have H:(tO Op.bytesLess l).length=l.length:=(BB Op.bytesLess (λa b h=>Bj h) UG l).2.length_eq;obtain⟨k1,k2,k3⟩:=Kj (enc:=encStr) (n:=n) (d:=(tO Op.bytesLess l).toArray) (os:=os) hg;obtain⟨t1,t2⟩:=T6 (enc:=encStr) (l:=tO Op.bytesLess l) (cur:=cur) af;refine⟨_,μ,z,rfl,NP (cur:=cur) (us:=(tO Op.bytesLess l).map encStr) D e1 B O (by rw[zo];exact V) G C8 k1 t1 (by rw[zo,<-H];exact t2) (by simp[H]) k2 rfl rfl rfl k3 (by simp[H]) (Dq.2 rfl)⟩
end Go.Proofs.YtbnlhmaaccgbjaaGreatDoor.cl
set_option maxRecDepth 100000
namespace Go.Proofs.YtbnlhmaaccgbjaaGreatDoor.cl.cq
open Go Go.AM
def gI:eN:=λ_ _ _=>none
abbrev Hq:Nat->Hint:=H
noncomputable abbrev Rn:eN:=run P Hq gI
def Q0:Int->AV:=(λ(x:Int)=>((.int .i64 x):AV))
instance:fC Q0:=⟨λa b h=>by
 simp only[Q0,AV.mp.injEq,AV.int.injEq,AV.str.injEq,AV.bool.injEq,AV.dD.injEq,AV.agg.injEq,AV.iQ.injEq,cS,eE,eH] at h
 exact h⟩
def Q1:Bool->AV:=(λ(x:Bool)=>((.bool x):AV))
instance:fC Q1:=⟨λa b h=>by
 simp only[Q1,AV.mp.injEq,AV.int.injEq,AV.str.injEq,AV.bool.injEq,AV.dD.injEq,AV.agg.injEq,AV.iQ.injEq,cS,eE,eH] at h
 exact h⟩
def ress:List (Nat×vF):=[(250,⟨_,Q0⟩),(259,⟨_,Q0⟩),(297,⟨_,Q1⟩)]
def sV:lK:={ elem:=Hy elems,val:=Hy vals,res:=Hy ress }
noncomputable def f464 (l q:Int):Option Int:=dec (EN Q0) (Rn 250 [(.pv (.int .i64 l)),(.pv (.int .i64 q))] [])
noncomputable def f495 (l q:cD):Option Int:=dec (EN Q0) (Rn 259 [(.pv (.agg (cD.enc l))),(.pv (.agg (cD.enc q)))] [])
noncomputable def f469 (l:Int):Option Bool:=dec (EN Q1) (Rn 297 [(.pv (.int .i64 l))] [])
def e464 (w z:Int) {r:Int}
 (h:(
 Option.bind (f469 w) λq=>
 Option.bind (f469 z) λl=>
 bif q then(
 bif l then(
 some 0)
 else(
 some (-1)))
 else(
 bif l then(
 some 1)
 else(
 bif(decide (w<z)) then(
 some (-1))
 else(
 bif(decide (w>z)) then(
 some 1)
 else(
 some 0)))):Option Int)=some r):
 f464 w z=some r:=
 oH (E:=(EN Q0)) h (
 Ik λq=>
 Ik λl=>
 Ic (
 Ic (
 Is) (
 Is)) (
 Ic (
 Is) (
 Ic (
 Is) (
 Ic (
 Is) (
 Is)))))
 (by kernel_rfl) (λh=>pI (C:=sV) rfl h)
def e495 (q w:cD) {r:Int}
 (h:(
 Option.bind (f464 q.bN w.bN) λl=>
 some l:Option Int)=some r):
 f495 q w=some r:=
 oH (E:=(EN Q0)) h (
 Ik λl=>
 Is)
 (by kernel_rfl) (λh=>pI (C:=sV) rfl h)
def e469 (l:Int) {r:Bool}
 (h:(
 some (l !=l):Option Bool)=some r):
 f469 l=some r:=
 oH (E:=(EN Q1)) h (
 Is)
 (by kernel_rfl) (λh=>pI (C:=sV) rfl h)
end Go.Proofs.YtbnlhmaaccgbjaaGreatDoor.cl.cq
namespace Go.Proofs.YtbnlhmaaccgbjaaGreatDoor.cl
open Go Go.AM
namespace cq
def h96:∀x:Int,f469 x=some false:=λx=>e469 _ ai
def h50:∀x y:Int,f464 x y=some (if x<y then-1 else if y<x then 1 else 0):=by
 intro x y;refine e464 _ _ ?_;rw[h96,aj,h96,aj,az,az];by_cases l:x<y
 .rw[cond_pos (by simpa using l),aB l]
 .rw[cond_neg (by simpa using l),au l];by_cases q:y<x
  .rw[cond_pos (by simpa using q),aB q]
  .rw[cond_neg (by simpa using q),au q]
def arc (p:Int×Int):cD:=⟨p.1,p.2⟩
def i495 (p q:Int×Int):f495 (arc p) (arc q)=some (if p.1<q.1 then-1 else if q.1<p.1 then 1 else 0):=by refine e495 _ _ ?_;show Option.bind (f464 p.1 q.1) _=_;rw[h50,aj]
end cq
end Go.Proofs.YtbnlhmaaccgbjaaGreatDoor.cl
namespace Go.Proofs.YtbnlhmaaccgbjaaGreatDoor.cl
open Go Go.AM Go.RowKit
def ok:DV P=true:=by kernel_rfl
def qh {g:Nat} {fn:Func} (B:P.funcs[g]? =some fn) (D:¬(fn.name= "runtime.NumGoroutine")) (w:fn.body.isSome=true) (l:Array Value) (q:World):(callFunc g l).run P q= .ok (.enter g l) q:=by obtain⟨c,z⟩:=oQ.1 w;simp[callFunc,B,D,z]
def abS (f:Nat):(H f).blk=[]:=by
 have key:∀(l:List (Nat×Hint)),(l.all λp=>p.2.blk.isEmpty)=true->∀f,((find l f).getD {}).blk=[]:=by intro l;induction l with
  |nil=>intro _ f;rfl
  |cons p l q=>intro h f;rw[jC,aS] at h;simp only[find];cases w:Nat.beq p.1 f with
   |true=>rw[ak];exact yY.1 h.1
   |false=>rw[az];exact q h.2 f
 exact key hints (by kernel_rfl) f
def aaU:∀f fn c,P.funcs[f]? =some fn->fn.body=some c->qY True (λ_ _=>none) P (H f) fn.ntmps c:=λf fn c _ _=>qY.none (abS f) c
def none_ok:iB True (λ_ _=>none) P cq.gI:=λg args cL r l q=>by cases q
structure SK where
 T:Type
 enc:T->List AV
 good:T->Prop
 c:T->T->Int
 ty:Nat
 cm:Nat
 two:∀x,∃a b,enc x=[a,b]
 asy:∀p q,c p q<0->¬c q p<0
 up:∀x y z,c x y<0->¬c z y<0->c x z<0
 nul:∀μ:Mu,∃p us,lR μ (enc p) us/\good p
 runs:∀x y,good x->good y->cq.Rn cm [(.pv (.agg (enc x))),(.pv (.agg (enc y)))] []=some (.int .i64 (c x y),[])
 enters:∀(us:Array Value) (w2:World),(callFunc cm us).run P w2= .ok (.enter cm us) w2
abbrev Al (S:SK) (μ:Mu):Type:={ x:S.T×List Value // lR μ (S.enc x.1) x.2/\S.good x.1 }
variable {S:SK}
noncomputable instance (μ:Mu):Inhabited (Al S μ):=⟨Classical.choice (by
 obtain⟨p,l,h⟩:=S.nul μ
 exact⟨⟨(p,l),h⟩⟩)⟩
def Al.cells {μ:Mu} (x:Al S μ):List Value:=x.1.2
def Al.len {μ:Mu} (x:Al S μ):x.cells.length=2:=by obtain⟨⟨p,z⟩,⟨h,_⟩,_⟩:=x;obtain⟨a,b,e⟩:=S.two p;have w:cM μ (S.enc p) z:=h;rw[e] at w;obtain⟨u,H,D,_,⟨G,q,B,_,l⟩⟩:=w;have F:q=[]:=l;show z.length=2;rw[D,B,F];rfl
def Al.one {μ:Mu} (x:Al S μ):∀v∈x.cells,v.oneCell'=true:=x.2.1.2
def Al.cf {μ:Mu} (x y:Al S μ):Int:=S.c x.1.1 y.1.1
def SK.lt (S:SK) (x y:S.T):Bool:=decide (S.c x y<0)
def swo {μ:Mu}:Go.Sort.SWO (ltOf (Al.cf (S:=S) (μ:=μ))) where
 irrefl x:=by show decide (S.c x.1.1 x.1.1<0)=false;exact r5 λh=>S.asy _ _ h h
 trans x y z h1 h2:=by have l:S.c x.1.1 y.1.1<0:=jP h1;have q:S.c y.1.1 z.1.1<0:=jP h2;exact qb (S.up _ _ _ l (S.asy _ _ q))
 ntrans x y z h1 h2:=by have l:¬S.c x.1.1 y.1.1<0:=zq h1;have q:¬S.c y.1.1 z.1.1<0:=zq h2;exact r5 λw=>l (S.up _ _ _ w q)
def cmp48 {D:Mu} {W:World} (B:Mb D W) (x y:Al S D):Calls P S.cm #[.agg x.cells.toArray, .agg y.cells.toArray] W λe l=>e= .returned (.int .i64 (Al.cf x y))/\∃q F,l=Go.Sort.grow (W.drewN q) F:=by
 have U:=S.runs x.1.1 y.1.1 x.2.2 y.2.2
 have V:=(iB.noY (NK (q:=True) (B:=λ_ _=>none) ok aaU none_ok S.cm _ [] _ _ U W D (λ_=>undef) [.agg x.cells.toArray, .agg y.cells.toArray] (λ_ _ _ h=>by cases h) B (λid o h=>by cases h) (λi j oi oj h=>by cases h)
  ⟨_,_,rfl,(by show rep D (.agg (S.enc x.1.1)) _;rw[rep];exact⟨_,rfl,x.2.1.1,x.2.1.2⟩),_,_,rfl,(by show rep D (.agg (S.enc y.1.1)) _;rw[rep];exact⟨_,rfl,y.2.1.1,y.2.1.2⟩),rfl⟩) λxs h=>by cases h).2
 refine V.mono ?_;rintro e l ⟨v,μ',Q,rfl,w⟩;have O:=w.pure rfl;rw[rep] at O;subst O;refine⟨rfl,l.drawn-W.drawn,l.heap.extract W.heap.size l.heap.size,?_⟩;have hd:=w.drawn trivial;have z:l.heap=W.heap++l.heap.extract W.heap.size l.heap.size:=by
  apply Array.ext_getElem?;intro b;by_cases N:b<W.heap.size
  .rw[uJ N];exact w.keep b N (by rintro⟨id,v,h,_⟩;simp[iy] at h)
  .rw[Array.getElem?_append_right af,Array.getElem?_extract];have hg:=w.grown;by_cases R:b<l.heap.size
   .rw[aB af,show W.heap.size+(b-W.heap.size)=b by omega]
   .rw[au af,Array.getElem?_eq_none af]
 have ext:∀{a b:World},a.heap=b.heap->a.tape=b.tape->a.drawn=b.drawn->a.os=b.os->a.output=b.output->a=b:=by intro a b G H I K L;cases a;cases b;simp only at G H I K L;subst G H I K L;rfl
 exact ext z w.tape (show l.drawn=W.drawn+(l.drawn-W.drawn) by omega) w.os w.output
end Go.Proofs.YtbnlhmaaccgbjaaGreatDoor.cl
namespace Go.Proofs.YtbnlhmaaccgbjaaGreatDoor.cl
open Go Go.AM Go.RowKit
open Go.Sort (flatK size_flatK get_flatK ext_get!)
variable {S:SK}
def aaO {D:Mu}:∀{l:List S.T} {z:List Value},(∀p∈l,S.good p)->cT D 2 (l.map S.enc) z->∃w:List (Al S D),w.map (λx=>x.1.1)=l/\z=(w.map Al.cells).flatten:=by intro l;induction l with
 |nil=>intro z _ h;exact⟨[],rfl,h⟩
 |cons p l K=>
  intro z B h;obtain⟨L,ws,rfl,G,N,H⟩:=h;obtain⟨w,e1,F⟩:=K (λq I=>B q (by simp[I])) H;refine⟨⟨(p,L),G,B p ai⟩::w,?_,?_⟩
  .rw[bw,e1]
  .rw[bw,u6,F];rfl
def adP {q:Mu}:∀(l:List (Al S q)),cT q 2 (l.map λx=>S.enc x.1.1) (l.map Al.cells).flatten:=by intro l;induction l with
 |nil=>rfl
 |cons x l w=>exact⟨x.cells,(l.map Al.cells).flatten,rfl,x.2.1,x.len,w⟩
def ET {w:Mu} (l:List (Al S w)):(l.map Al.cells).flatten.length=l.length *2:=by induction l with
 |nil=>rfl
 |cons x l q=>rw[bw,u6,cF,q,x.len,bp];omega
def abC {B:Mu}:∀(l:List (Al S B)) (t:Nat),t<l.length *2->(l.map Al.cells).flatten[t]! =(l[t / 2]!).cells[t % 2]! :=by intro l;induction l with
 |nil=>intro t h;simp at h
 |cons x l z=>
  intro t h;have w:=x.len;have F:=ET l;rw[bp] at h;rw[bw,u6];by_cases D:t<2
  .have e1:t / 2=0:=af;have q:t % 2=t:=af;rw[e1,q,qc,fL af];simp[qc]
  .obtain⟨s,rfl⟩:∃s,t=s+2:=⟨t-2,af⟩
   have e1:(s+2) / 2=s / 2+1:=af;have q:(s+2) % 2=s % 2:=af;have:=z s af;rw[qc] at this;rw[e1,q,qc,fK af,w,show s+2-2=s by omega,this];simp[qc]
def Sb {μ:Mu} (l:List (Al S μ)):flatK Al.cells 2 l.toArray=(l.map Al.cells).flatten.toArray:=by
 refine ext_get! (by simp only[size_flatK,pR];exact(ET l).symm) λt w=> ?_
 have q:t<l.length *2:=by simpa using w
 rw[get_flatK _ _ _ t (by simpa using q)];have:=abC l t q;simp only[Es] at this⊢;exact this.symm
def SK.lt_asymm (S:SK) (p q:S.T) (h:S.lt p q=true):S.lt q p=false:=r5 (S.asy _ _ (jP h))
def SK.lt_up (S:SK) (x y z:S.T) (h:S.lt x y=true) (l:S.lt z y=false):S.lt x z=true:=qb (S.up _ _ _ (jP h) (zq l))
def Wy {I:Mu} {l:List S.T} (V:∀x∈l,∀y∈l,S.lt x y=false->S.lt y x=false->x=y) {q:List (Al S I)} (e:q.map (λx=>x.1.1)=l) {w:Array (Al S I)} (U:Go.Sort.PermIn 0 q.toArray.size q.toArray w) (H:Go.Sort.SortedIn (ltOf Al.cf) 0 q.toArray.size w):
  w.toList.map (λx=>x.1.1)=tO S.lt l/\w.toList.length=q.length:=by
 obtain⟨K,_,L⟩:=U;have D:w.size=q.length:=by simpa using K
 have N:w.toList.Perm q:=by
  have O:w.extract 0 q.toArray.size=w:=by rw[<-K];simp
  have P:q.toArray.extract 0 q.toArray.size=q.toArray:=ai;rw[O,P] at L;simpa using L
 refine⟨?_,by simpa using D⟩;obtain⟨s1,s2⟩:=BB S.lt S.lt_asymm S.lt_up l;have z:(w.toList.map λx=>x.1.1).Perm l:=by rw[<-e];exact N.map _
 refine Ia (lt:=S.lt) (z.trans s2.symm) ?_ s1 ?_
 .unfold mU;rw[kO,nT];intro i j Q R G;have F:i<w.size:=by simpa using Q
  have B:j<w.size:=by simpa using R
  have:=H i j (cW _) G (by simpa[D] using B);rw[show ltOf Al.cf=λx y:Al S I=>S.lt x.1.1 y.1.1 from rfl,getElem!_pos w j B,getElem!_pos w i F] at this;simpa using this
 .intro x hx y hy;exact V x (z.mem_iff.1 hx) y (z.mem_iff.1 hy)
def sort47 {μ:Mu} {F:Nat->Value} {w:World} {l:List S.T} {R:Go.Shelf.Ren} (L:SlLaysF0.n6 P R) (aE:∀w,(isAgg (R.t 24)).run P w= .ok true w) (zE:∀w,(Go.sizeOf (R.t 24)).run P w= .ok 2 w) (hlen:l.length<=1073741824) (hst:∀x∈l,∀y∈l,S.lt x y=false->S.lt y x=false->x=y) (hw:∀p∈l,S.good p) (H:Mb μ w) (qQ:nv w.heap.size (iy False F [10000]) μ F w 10000 (.row S.ty 2 (l.map S.enc))):
  Calls P (R.f 6) #[F 10000, .func (.func S.cm) #[] #[]] w λe I=>∃v μ' loc',e= .returned v/\fN False μ F [10000] (.iQ []) [(10000, .row S.ty 2 ((tO S.lt l).map S.enc))] w v μ' loc' I:=by
 have Gl:=qQ;obtain⟨vs,hown,hrc,hbl⟩:=Gl;rcases hown.2 with⟨e1,h0⟩|⟨g,N,cur,e1,_,hg,K,hmax,hsz,D⟩
 .have hl:l=[]:=by
   cases l with
   |nil=>rfl
   |cons a b=>simp at h0
  subst hl;have hc:Calls P (R.f 6) #[.slice none 0 0, .func (.func S.cm) #[] #[]] w λe I=>e= .returned (.tuple #[])/\I=w:=AnyF.slices_SortFunc_none L none 0 _ w
  rw[e1];refine hc.mono ?_;rintro e I ⟨rfl,rfl⟩;exact⟨_,μ,F,rfl,NL H qQ⟩
 .obtain⟨q,U,ha2⟩:=aaO hw hrc;have hal:q.length=l.length:=by rw[<-U];simp
  have hll:(l.map S.enc).length=q.length:=by simp[hal]
  rw[hll] at e1 K D;rw[ha2] at D;have hfl:=ET q;have hin:lI (F 10000) g:=by rw[e1];exact ia.2 rfl
  obtain⟨Q,C8⟩:=hbl g hin;have hlt:g<w.heap.size:=(gx.1 hg).1;have O:∀(j:Nat),j<q.length *2->cur[j]? =(q.map Al.cells).flatten[j]? :=by
   intro j hj;have h1:(cur.toList.take (q.length *2))[j]? =(q.map Al.cells).flatten[j]? :=by rw[D]
   rw[oR,aB hj] at h1;simpa using h1
  have hH:Go.Sort.HoldsK Al.cells 2 w g 0 q.toArray:=by
   intro j hj;rw[Sb] at hj⊢;have hj':j<q.length *2:=by rw[<-hfl];simpa using hj
   have V:=O j hj';have hjf:j<(q.map Al.cells).flatten.length:=af;rw[aK hjf] at V;rw[eO];refine⟨?_,?_⟩
   .unfold World.cell?;simp only[hg];rw[Es,qc,aK hjf];simp[V]
   .unfold World.frozen?;simp[hg]
  have hcmp:CmpLays P S.cm #[] (Al.cells (S:=S) (μ:=μ)) 2 Al.cf g 0 q.toArray.size w:=by
   intro m os dk hdk x y;refine cmp48 (W:=sortWorldK Al.cells 2 w g 0 m dk os) ?_ x y;obtain⟨_,k2,_⟩:=Kj (enc:=id) (n:=m) (d:=flatK Al.cells 2 dk) (os:=os) hg;intro b j z hz;have h:=H b j z hz;have hne:b≠g:=λe=>by subst e;rw[C8 j] at hz;cases hz
   exact(jx (k2 b (sF h) hne) j).trans h
  have hc:Calls P (R.f 6) #[.slice (some ⟨g,0,none⟩) q.toArray.size N, .func (.func S.cm) #[] #[]] w λe I=>e= .returned (.tuple #[])/\∃B n os,Go.Sort.PermIn 0 q.toArray.size q.toArray B/\Go.Sort.SortedIn (ltOf Al.cf) 0 q.toArray.size B/\I=sortWorldK Al.cells 2 w g 0 n B os:=
   AnyQ.slices_SortFunc L 2 aE zE Al.cells Al.len Al.one Al.cf swo S.cm #[] g 0 N q.toArray w S.enters hcmp hH hlt aH
  have hc':Calls P (R.f 6) #[.slice (some ⟨g,0,none⟩) q.length N, .func (.func S.cm) #[] #[]] w λe I=>e= .returned (.tuple #[])/\∃B n os,Go.Sort.PermIn 0 q.toArray.size q.toArray B/\Go.Sort.SortedIn (ltOf Al.cf) 0 q.toArray.size B/\I=sortWorldK Al.cells 2 w g 0 n B os:=by simpa using hc
  rw[e1];refine hc'.mono ?_;rintro e I ⟨rfl,B,n,os,hp,hso,rfl⟩;obtain⟨q1,q2⟩:=Wy hst U hp hso;have G:=ET B.toList;have hfa:flatK Al.cells 2 B=(B.toList.map Al.cells).flatten.toArray:=by have:=Sb B.toList;simpa using this
  obtain⟨k1,k2,k3⟩:=Kj (enc:=id) (n:=n) (d:=flatK Al.cells 2 B) (os:=os) hg;obtain⟨t1,t2⟩:=T6 (enc:=id) (l:=(B.toList.map Al.cells).flatten) (cur:=cur) (by rw[G,q2,hsz];omega);rw[<-hfa] at t1 t2;rw[nH] at t2;have hil:(tO S.lt l).length=q.length:=by rw[<-q1,bz,q2]
  refine⟨_,μ,F,rfl,NP (cur:=cur) (us:=(B.toList.map Al.cells).flatten) H e1 K hmax hsz Q C8 k1 t1 (by rw[<-q2,<-G];exact t2) (by rw[G,q2]) k2 rfl rfl rfl k3 (by rw[bz,hil]) ?_⟩;rw[<-q1,fo];exact adP B.toList
def MR:∀{xs:List (List AV)} {l:List (Int×Int)},Bg xs=some l->xs=l.map R2
 |[],l,h=>by
  have:l=[]:=(eT h).symm
  subst this;rfl
 |[.int .i64 f, .int .i64 t]::xs,l,h=>by have h:(Bg xs).map ((f,t):: ·)=some l:=h;obtain⟨m,q,rfl⟩:=cB.1 h;rw[MR q];rfl
def Y0 {l:List (Int×Int)} (h:Bf l=true):∀x∈l,∀y∈l,VV x y=false->VV y x=false->x=y:=by induction l with
 |nil=>intro x G;cases G
 |cons a l K=>
  unfold Bf at h;simp only[aS,cH,gK] at h;intro x G y I D F;rcases aJ.1 G with H|z
  .rcases aJ.1 I with B|w
   .rw[H,B]
   .subst H;rcases h.1 y w with q|q
    .rw[D] at q;cases q
    .rw[F] at q;cases q
  .rcases aJ.1 I with B|w
   .subst B;rcases h.1 x z with q|q
    .rw[F] at q;cases q
    .rw[D] at q;cases q
   .exact K h.2 x z y w D F
def cA (p q:Int×Int):Int:=if p.1<q.1 then-1 else if q.1<p.1 then 1 else 0
def UM {p q:Int×Int}:cA p q<0↔p.1<q.1:=by
 unfold cA;split
 .simp[*]
 .split<;>simp[*]
abbrev SKa:SK where
 T:=Int×Int
 enc:=R2
 good _:=True
 c:=cA
 ty:=61
 cm:=259
 two p:=⟨_,_,rfl⟩
 asy p q h h':=by rw[UM] at h h';omega
 up x y z h h':=by rw[UM] at *;omega
 nul μ:=⟨(0,0),[.int .i64 0, .int .i64 0],⟨⟨_,_,rfl,by rw[rep],⟨_,_,rfl,by rw[rep],rfl⟩⟩,λu l=>by
  simp only[aJ,lW,nJ] at l
  rcases l with rfl|rfl<;>rfl⟩,trivial⟩
 runs x y _ _:=iw (EN cq.Q0) (cq.Rn 259 [(.pv (.agg (cD.enc (cq.arc x)))),(.pv (.agg (cD.enc (cq.arc y))))] []) _ (cq.i495 x y)
 enters:=qh Tryz.func259 (by decide) (by rfl)
def aaK:SKa.lt=VV:=by
 funext p q;have h:SKa.c=cA:=by simp only[SKa]
 unfold SK.lt VV;rw[h,p7];exact UM
end Go.Proofs.YtbnlhmaaccgbjaaGreatDoor.cl
set_option maxRecDepth 100000
set_option maxHeartbeats 2000000
namespace Go.Proofs.YtbnlhmaaccgbjaaGreatDoor.cl
open Go Go.AM Go.RowKit
def tS {H:Mu} {G:Nat->Value} {w Q:World} {e K:Nat} {xs:List (List AV)} {v:Value} {vs:List Value} {q:Qp} (V:q.p->False) (z:Mb H w) (B:Below w.heap.size w Q) (l:Q.ownsRow w.heap.size e K v xs.length vs) (P:cT H K xs vs):
  fN q H G [] (.iQ [.iQ [.self e, .dD K xs]]) [] w v H G Q where
 ext:=Mu.ext.toL ⟨Mu.le.refl _,λ_ _ _ h=> .inl h⟩
 xZ:=λb j x hx=>by have h:=z b j x hx;rw[jx (B.block b (sF h)) j];exact h
 res:= .inr (.inr (.inr ⟨e,K,xs,vs,rfl,by
  refine⟨l.1,?_⟩;rcases l.2 with h|⟨g,D,F,R,_,L⟩
  .exact .inl h
  .exact .inr ⟨g,D,F,R,cW _,L⟩,P,λg I=>by
  have N:w.heap.size<=g:=by
   rcases l.2 with⟨h,_⟩|⟨g',D,F,h,L,_⟩
   .rw[h] at I;cases I
   .rw[h] at I;cases I;exact L
  refine⟨.inl N,λj=> ?_,λid o h=>by cases h⟩;cases U:H g j with
  |none=>rfl
  |some x=>have:=sF (z _ _ _ U);omega⟩))
 obs:=λid o h=>by cases h
 apart:=λi j oi oj h=>by cases h
 keep:=λb O _=>B.block b O
 fix:=λid h=>by cases h
 os:=B.os
 tape:=B.tape
 output:=B.output
 grown:=B.size
 drawn:=λh=>(V h).elim
def ED {D:Mu} {w:World} {I:Nat} {xs:List (List AV)} {a:Addr} (q:Mb D w) (N:xs.length=0\/∃b l,some a=some ⟨b,l,none⟩/\lE D I b xs l):
  ∃B,cT D I xs B/\(∀u∈B,u.oneCell'=true)/\∀j u,B[j]? =some u->w.cell? (a.add j)=some u:=by
 rcases N with L|⟨b,l,K,z⟩
 .have:xs=[]:=by simpa using L
  subst this;exact⟨[],rfl,by simp,ai⟩
 .cases K;obtain⟨B,H,O⟩:=uo z;have F:=kU H
  exact⟨B,H,F,λj u G=>by
   rw[zx]
   exact yI (q _ _ _ (O j u G)) (F u (aZ G))⟩
def aa8 {μ:Mu} {loc:Nat->Value} {w:World} {xs:List (List AV)} {u:Value} {q:Qp} (hq:q.p->False) (oC:Mb μ w) (hu:rep μ (.dD 1 xs) u) (hbig:xs.length *8<=140737488355328):
  Calls P 158 #[u] w λe w'=>∃v μ' loc',e= .returned v/\fN q μ loc [] (.iQ [.iQ [.self 3, .dD 1 xs]]) [] w v μ' loc' w':=by
 rw[rep.eq_def] at hu;dsimp only at hu;obtain⟨A,c,rfl,hc1,Vl,hA⟩:=hu;have qn:∀(w:World) (a:Option Addr) (n c n' c':Nat),(binOp .eql 87 (.slice a n c) (.slice none n' c')).run P w= .ok (.bool a.isNone) w:=λw a n c n' c'=>Lib.run_eql_slice_nil w _ _ a n c n' c' Tryz.underlying87
 cases A with
 |none=>
  have h0:xs=[]:=by
   rcases hA with h|⟨b,off,e,_⟩
   .simpa using h
   .cases e
  subst h0
  go_enter Tryz.func158,Tryz.ntmps158
  go_wp2
  go_ret
  exact⟨_,μ,loc,rfl,tS hq oC (ij _ _) (vs:=[]) ⟨rfl, .inl ⟨rfl,rfl⟩⟩ rfl⟩
 |some a=>
  obtain⟨us,AQ,h1,hcell⟩:=ED oC hA;have HF:=dc AQ;obtain⟨i0,hi,Un,hz1,hz2⟩:=info_parts (show(P.info? 3).map (λi=>(i.zero,i.size,i.bytes))=some (some (.int .i64 0),1,8) by kernel_rfl);have u107:∀w,Sem.run P (underlying 87) w= .ok (TypeDesc.slice 3) w:=bM Tryz.underlying87
  go_enter Tryz.func158,Tryz.ntmps158
  go_wp2_with (at_builtin;refine u7 _ rfl _ _ 87 rfl w.heap.size 3 i0 (.int .i64 0) 1 8 Tryz.underlying87 hi Un hz1 hz2 rfl (by decide) _ _ _ rfl (u9 w #[] 0 (aU _) (cW _) rfl) a xs.length c us rfl ?qc1 ?qc2 h1 ?qc4 ?qc5 ?qc6 ?_)
  case qc1=>exact HF
  case qc2=>exact λj u hj=>Lib.cell?_alloc_some _ (hcell j u hj)
  case qc4=>omega
  case qc5=>omega
  case qc6=>simp
  intro v' w1 hown hgrow Kk
  go_wp2
  go_ret
  exact⟨_,μ,loc,rfl,tS hq oC (((ij _ w).alloc (aU _) _).grown hgrow ai (by intro k hk;simp[Value.ownBlock] at hk;omega)) (by simpa using hown) AQ⟩
def aa7 {μ:Mu} {loc:Nat->Value} {w:World} {xs:List (List AV)} {u:Value} {q:Qp} (hq:q.p->False) (oC:Mb μ w) (hu:rep μ (.dD 2 xs) u) (hbig:xs.length *32<=140737488355328):
  Calls P 56 #[u] w λe w'=>∃v μ' loc',e= .returned v/\fN q μ loc [] (.iQ [.iQ [.self 64, .dD 2 xs]]) [] w v μ' loc' w':=by
 rw[rep.eq_def] at hu;dsimp only at hu;obtain⟨A,c,rfl,hc1,Vl,hA⟩:=hu;have qn:∀(w:World) (a:Option Addr) (n c n' c':Nat),(binOp .eql 28 (.slice a n c) (.slice none n' c')).run P w= .ok (.bool a.isNone) w:=λw a n c n' c'=>Lib.run_eql_slice_nil w _ _ a n c n' c' Tryz.underlying28
 cases A with
 |none=>
  have h0:xs=[]:=by
   rcases hA with h|⟨b,off,e,_⟩
   .simpa using h
   .cases e
  subst h0
  go_enter Tryz.func56,Tryz.ntmps56
  go_wp2
  go_ret
  exact⟨_,μ,loc,rfl,tS hq oC (ij _ _) (vs:=[]) ⟨rfl, .inl ⟨rfl,rfl⟩⟩ rfl⟩
 |some a=>
  obtain⟨us,AQ,h1,hcell⟩:=ED oC hA;have HF:=dc AQ;obtain⟨i0,hi,Un,hz1,hz2⟩:=info_parts (show(P.info? 64).map (λi=>(i.zero,i.size,i.bytes))=some (some (.agg #[.int .i64 0, .slice none 0 0]),2,32) by kernel_rfl);have u28:∀w,Sem.run P (underlying 28) w= .ok (TypeDesc.slice 64) w:=bM Tryz.underlying28
  go_enter Tryz.func56,Tryz.ntmps56
  go_wp2_with (at_builtin;refine u7 _ rfl _ _ 28 rfl w.heap.size 64 i0 (.agg #[.int .i64 0, .slice none 0 0]) 2 32 Tryz.underlying28 hi Un hz1 hz2 rfl (by decide) _ _ _ rfl (u9 w #[] 0 (aU _) (cW _) rfl) a xs.length c us rfl ?qc1 ?qc2 h1 ?qc4 ?qc5 ?qc6 ?_)
  case qc1=>exact HF
  case qc2=>exact λj u hj=>Lib.cell?_alloc_some _ (hcell j u hj)
  case qc4=>omega
  case qc5=>omega
  case qc6=>simp
  intro v' w1 hown hgrow Kk
  go_wp2
  go_ret
  exact⟨_,μ,loc,rfl,tS hq oC (((ij _ w).alloc (aU _) _).grown hgrow ai (by intro k hk;simp[Value.ownBlock] at hk;omega)) (by simpa using hown) AQ⟩
def clone31 {μ:Mu} {loc:Nat->Value} {w:World} {xs:List (List AV)} {u:Value} {q:Qp} (hq:q.p->False) (oC:Mb μ w) (hu:rep μ (.dD 3 xs) u) (hbig:xs.length *64<=140737488355328):
  Calls P 47 #[u] w λe w'=>∃v μ' loc',e= .returned v/\fN q μ loc [] (.iQ [.iQ [.self 70, .dD 3 xs]]) [] w v μ' loc' w':=by
 rw[rep.eq_def] at hu;dsimp only at hu;obtain⟨A,c,rfl,hc1,Vl,hA⟩:=hu;have qn:∀(w:World) (a:Option Addr) (n c n' c':Nat),(binOp .eql 38 (.slice a n c) (.slice none n' c')).run P w= .ok (.bool a.isNone) w:=λw a n c n' c'=>Lib.run_eql_slice_nil w _ _ a n c n' c' Tryz.underlying38
 cases A with
 |none=>
  have h0:xs=[]:=by
   rcases hA with h|⟨b,off,e,_⟩
   .simpa using h
   .cases e
  subst h0
  go_enter Tryz.func47,Tryz.ntmps47
  go_wp2
  go_ret
  exact⟨_,μ,loc,rfl,tS hq oC (ij _ _) (vs:=[]) ⟨rfl, .inl ⟨rfl,rfl⟩⟩ rfl⟩
 |some a=>
  obtain⟨us,AQ,h1,hcell⟩:=ED oC hA;have HF:=dc AQ;obtain⟨i0,hi,Un,hz1,hz2⟩:=info_parts (show(P.info? 70).map (λi=>(i.zero,i.size,i.bytes))=some (some (.agg #[.string ⟨#[]⟩, .slice none 0 0, .slice none 0 0]),3,64) by kernel_rfl);have u38:∀w,Sem.run P (underlying 38) w= .ok (TypeDesc.slice 70) w:=bM Tryz.underlying38
  go_enter Tryz.func47,Tryz.ntmps47
  go_wp2_with (at_builtin;refine u7 _ rfl _ _ 38 rfl w.heap.size 70 i0 (.agg #[.string ⟨#[]⟩, .slice none 0 0, .slice none 0 0]) 3 64 Tryz.underlying38 hi Un hz1 hz2 rfl (by decide) _ _ _ rfl (u9 w #[] 0 (aU _) (cW _) rfl) a xs.length c us rfl ?qc1 ?qc2 h1 ?qc4 ?qc5 ?qc6 ?_)
  case qc1=>exact HF
  case qc2=>exact λj u hj=>Lib.cell?_alloc_some _ (hcell j u hj)
  case qc4=>omega
  case qc5=>omega
  case qc6=>simp
  intro v' w1 hown hgrow Kk
  go_wp2
  go_ret
  exact⟨_,μ,loc,rfl,tS hq oC (((ij _ w).alloc (aU _) _).grown hgrow ai (by intro k hk;simp[Value.ownBlock] at hk;omega)) (by simpa using hown) AQ⟩
def clone62 {μ:Mu} {loc:Nat->Value} {w:World} {xs:List (List AV)} {u:Value} {q:Qp} (hq:q.p->False) (oC:Mb μ w) (hu:rep μ (.dD 6 xs) u) (hbig:xs.length *112<=140737488355328):
  Calls P 80 #[u] w λe w'=>∃v μ' loc',e= .returned v/\fN q μ loc [] (.iQ [.iQ [.self 66, .dD 6 xs]]) [] w v μ' loc' w':=by
 rw[rep.eq_def] at hu;dsimp only at hu;obtain⟨A,c,rfl,hc1,Vl,hA⟩:=hu;have qn:∀(w:World) (a:Option Addr) (n c n' c':Nat),(binOp .eql 23 (.slice a n c) (.slice none n' c')).run P w= .ok (.bool a.isNone) w:=λw a n c n' c'=>Lib.run_eql_slice_nil w _ _ a n c n' c' Tryz.underlying23
 cases A with
 |none=>
  have h0:xs=[]:=by
   rcases hA with h|⟨b,off,e,_⟩
   .simpa using h
   .cases e
  subst h0
  go_enter Tryz.func80,Tryz.ntmps80
  go_wp2
  go_ret
  exact⟨_,μ,loc,rfl,tS hq oC (ij _ _) (vs:=[]) ⟨rfl, .inl ⟨rfl,rfl⟩⟩ rfl⟩
 |some a=>
  obtain⟨us,AQ,h1,hcell⟩:=ED oC hA;have HF:=dc AQ;obtain⟨i0,hi,Un,hz1,hz2⟩:=info_parts (show(P.info? 66).map (λi=>(i.zero,i.size,i.bytes))=some (some (.agg #[.string ⟨#[]⟩, .int .i64 0, .string ⟨#[]⟩, .slice none 0 0, .slice none 0 0, .slice none 0 0]),6,112) by kernel_rfl);have u23:∀w,Sem.run P (underlying 23) w= .ok (TypeDesc.slice 66) w:=bM Tryz.underlying23
  go_enter Tryz.func80,Tryz.ntmps80
  go_wp2_with (at_builtin;refine u7 _ rfl _ _ 23 rfl w.heap.size 66 i0 (.agg #[.string ⟨#[]⟩, .int .i64 0, .string ⟨#[]⟩, .slice none 0 0, .slice none 0 0, .slice none 0 0]) 6 112 Tryz.underlying23 hi Un hz1 hz2 rfl (by decide) _ _ _ rfl (u9 w #[] 0 (aU _) (cW _) rfl) a xs.length c us rfl ?qc1 ?qc2 h1 ?qc4 ?qc5 ?qc6 ?_)
  case qc1=>exact HF
  case qc2=>exact λj u hj=>Lib.cell?_alloc_some _ (hcell j u hj)
  case qc4=>omega
  case qc5=>omega
  case qc6=>simp
  intro v' w1 hown hgrow Kk
  go_wp2
  go_ret
  exact⟨_,μ,loc,rfl,tS hq oC (((ij _ w).alloc (aU _) _).grown hgrow ai (by intro k hk;simp[Value.ownBlock] at hk;omega)) (by simpa using hown) AQ⟩
end Go.Proofs.YtbnlhmaaccgbjaaGreatDoor.cl
set_option maxRecDepth 100000
set_option maxHeartbeats 2000000
namespace Go.Proofs.YtbnlhmaaccgbjaaGreatDoor.cl
open Go Go.AM Go.RowKit
attribute [local go_sem] Oper.semAt_some
abbrev C2:Type:={ l:List Value // l.length=2/\∀u∈l,u.oneCell'=true }
def flat (l:List C2):List Value:=(l.map (·.1)).flatten
def aaX:∀{l:List C2} {k:Nat} {x:C2} {j:Nat} {u:Value},l[k]? =some x->x.1[j]? =some u->(flat l)[k *2+j]? =some u:=by intro l;induction l with
 |nil=>intro k x j u h;simp at h
 |cons y l z=>intro k x j u h q;have w:=y.2.1;simp only[flat,bw,u6];cases k with
  |zero=>simp only[zh,aW] at h;subst h;have:=(bQ.1 q).1;rw[fL af];simpa using q
  |succ k=>rw[fK af,w,show(k+1) *2+j-2=k *2+j by omega];exact z (by simpa using h) q
def WH (x:C2):∃a b,x.1=[a,b]/\a.oneCell'=true/\b.oneCell'=true:=by obtain⟨q,h,l⟩:=x;match q,h with
 |[a,b],_=>exact⟨a,b,rfl,l a ai,l b ai⟩
def CE {w:World} {c:Array Value} {t i:Nat} {v:Value} (B:i<c.size) (D:v.oneCell'=true):
  Sem.run P (store ⟨w.heap.size,i,none⟩ v) (w.alloc (.cells c t))= .ok () (w.alloc (.cells (c.setIfInBounds i v) t)):=by
 have l:=World.alloc_heap_new w (.cells c t);have q:(w.alloc (.cells c t)).cell? ⟨w.heap.size,i,none⟩=some c[i]:=by simp only[World.cell?,l];simp[B]
 have z:(w.alloc (.cells c t)).frozen? ⟨w.heap.size,i,none⟩=false:=by simp only[World.frozen?,l];simp
 rw[run_store _ _ _ _ _ D,q];simp[z,World.setCell_alloc_new]
def two_new {w:World} {l q:Value} {t:TypeId}:∀(j:Nat) (u:Value),[l,q][j]? =some u->(w.alloc (.cells #[l,q] t)).cell? ((⟨w.heap.size,0,none⟩:Addr).add j)=some u:=by intro j u z;rw[zx];have:=World.alloc_heap_new w (.cells #[l,q] t);simp only[World.cell?,this];simpa using z
def valuesA {n:Nat} (hn:1<=n) {Bs os n₀:Nat} {a:Option Addr} {cap:Nat} {xs:List C2} {w:World} (hcap:xs.length<4611686018427387904) (hB:Bs<n₀) (hn₀:n₀<=w.heap.size)
  (hBs:w.cell? ⟨Bs,os,none⟩=some (.slice a xs.length cap)) (hc:xs=[]\/∃b off,a=some ⟨b,off,none⟩/\b<n₀/\∀j u,(flat xs)[j]? =some u->w.cell? ⟨b,off+j,none⟩=some u):
  SeqStopsK Fence.wide n P 302 #[.pointer (some ⟨Bs,os,none⟩)] (λx:C2=> #[.agg x.1.toArray]) (Below n₀) (λys=>ys=xs) (λ_=>True) xs.length w:=λl J Jx W hW hJ _ hY h0=>by
 have hw:Below n₀ w W:=hW.mono hn₀;replace hBs:=(hw.cell (p:=⟨Bs,os,none⟩) hB).trans hBs;replace hc:xs=[]\/∃b off,a=some ⟨b,off,none⟩/\b<n₀/\∀j u,(flat xs)[j]? =some u->W.cell? ⟨b,off+j,none⟩=some u:=hc.imp id λ⟨b,off,e,hb,h⟩=>⟨b,off,e,hb,λj u hj=>(hw.cell (p:=⟨b,off+j,none⟩) hb).trans (h j u hj)⟩
 replace hn₀:=e7 hn₀ hW.size;refine zy Tryz.func302 rfl trivial ?_ rfl;simp only[Tryz.ntmps302,pR,bp,dH,Nat.reduceAdd,Nat.reduceSub,vc,ve,vf,vg,dK,gi]
 gi_wp2
 gi_loopw [7] (λi wr=>∃k:Nat,k<=xs.length/\i= .int .i64 k/\J (xs.take k) wr/\Below n₀ W wr)
  (λi _=>xs.length-(intOf i).toNat)
 case atStart=>exact⟨0,cW _,rfl,by simpa using h0,ij _ _⟩
 case round=>
  obtain⟨k,hk,rfl,hJs,hnx⟩:=hrel;by_cases hlt:k<xs.length
  .obtain⟨u0,u1,hx,o0,o1⟩:=WH xs[k];obtain⟨b,off,rfl,hb,hcc⟩:∃b off,a=some ⟨b,off,none⟩/\b<n₀/\∀j u,(flat xs)[j]? =some u->W.cell? ⟨b,off+j,none⟩=some u:=by
    rcases hc with h|h
    .subst h;simp at hlt
    .exact h
   have hg:=aK hlt;have hc0:wr.cell? ⟨b,off+k *2,none⟩=some u0:=(hnx.cell (p:=⟨b,off+k *2,none⟩) hb).trans (hcc _ _ (aaX (j:=0) hg (by rw[hx];rfl)));have hc1:wr.cell? ⟨b,off+k *2+1,none⟩=some u1:=(hnx.cell (p:=⟨b,off+k *2+1,none⟩) hb).trans (hcc _ _ (aaX (j:=1) hg (by rw[hx];rfl)));have hs0:=CE (w:=wr) (c:= #[.int .i64 0, .int .i64 0]) (t:=61) (i:=0) (by decide) o0;have hs1:=CE (w:=wr) (c:= #[u0, .int .i64 0]) (t:=61) (i:=1) ai o1;have hs0':Sem.run P (store ⟨wr.heap.size,0,none⟩ u0) (wr.alloc (.cells #[.int .i64 0, .int .i64 0] 61))= .ok () (wr.alloc (.cells #[u0, .int .i64 0] 61)):=hs0;have hs1':Sem.run P (store ⟨wr.heap.size,1,none⟩ u1) (wr.alloc (.cells #[u0, .int .i64 0] 61))= .ok () (wr.alloc (.cells #[u0,u1] 61)):=hs1;have hJ2:J (xs.take k) (wr.alloc (.cells #[u0,u1] 61)):=hJ _ wr _ none hJs (World.grownBy_alloc _ _ _) (λr e=>by cases e);obtain⟨fn,tmps,assign,body,hy,hR⟩:=hY _ xs[k] _ hJ2 aH;rw[hx] at hy
   gi_wp2
   refine hR.mono ?_;rintro e W3 (⟨rfl,hJ3,hk3⟩|⟨rfl,hJ3⟩)
   .gi_wp2
    go_roundw
    case rel=>exact⟨k+1,by omega,by simp,by rw[de,hg];exact hJ3,(hnx.alloc (e7 hn₀ hnx.size) _).trans hk3⟩
    case measure=>simp[intOf];omega
   .gi_wp2
    refine bodyPost_ret (results_none rfl _ _ _) rfl ?_;exact⟨⟨_,rfl⟩, .inr ⟨_,trivial,hJ3⟩⟩
  .obtain rfl:k=xs.length:=by omega
   gi_wp2
   go_end0
   exact⟨⟨_,rfl⟩, .inl ⟨_,rfl,by simpa using hJs⟩⟩
def Coll (l:World) (q:Nat) (pre:List C2) (W:World):Prop:=
 (∃v,Boxed W q 62 v/\W.ownsRow l.heap.size 61 2 v pre.length (flat pre)/\True)/\Below l.heap.size l W
def RR (l:World) (q B:Nat) (w:l.heap.size<=B):OwnFrom B (Coll l q):=
 OwnFrom.and (Own.from (holdsRow_own l.heap.size q 62 61 2 (λs:List C2=>s.length) flat (λ_ _=>True)) _) (ownFrom_below (aU _) w)
def Elt (l b:Value) (x:C2) (w:Act) (W:World):Prop:=
 ∃q,W.heap[q]? =some (.cells x.1.toArray 61 (0,0))/\w={ tmps:= #[.slice none 0 0,l,b,undef, .slice none 0 0, .pointer (some ⟨q,0,none⟩),l, .agg x.1.toArray,undef,undef,undef,undef,undef],defers:=[] }
def elt_own (z b:Value) (B:Nat) (x:C2) (w:Act):OwnFrom B (λ(_:Unit) W=>Elt z b x w W):=λs A C row H F G=>by obtain⟨q,h,e⟩:=H;refine⟨q,(F.block q (gx.1 h).1 λe=> ?_).trans h,e⟩;obtain⟨_,o,l,D⟩:=G q e.symm;rw[h] at l;cases l;cases D
def aeS {n:Nat} (hn:3<=n) {Bs os:Nat} {a:Option Addr} {cap:Nat} {xs:List C2} {w:World} (hlen:xs.length *16<=140737488355328) (hB:Bs<w.heap.size)
  (hBs:w.cell? ⟨Bs,os,none⟩=some (.slice a xs.length cap)) (hc:xs=[]\/∃b off,a=some ⟨b,off,none⟩/\b<w.heap.size/\∀j u,(flat xs)[j]? =some u->w.cell? ⟨b,off+j,none⟩=some u):
  CallsIn Fence.wide n P 336 #[.slice none 0 0, .func (.func 302) #[] #[.pointer (some ⟨Bs,os,none⟩)]] w λe w'=>∃v,e= .returned v/\w'.ownsRow w.heap.size 61 2 v xs.length (flat xs)/\Below w.heap.size w w':=by
 have h1:1<=n:=af;refine callsIn_of_wp_marks Tryz.func336 rfl trivial ?_ rfl;simp only[Tryz.ntmps336,pR,bp,dH,Nat.reduceAdd,Nat.reduceSub,vc,ve,vf,vg,dK,gi]
 gi_wp2
 have hb1:Below w.heap.size w (w.alloc (.cells #[.slice none 0 0] 62)):=(ij _ w).alloc (aU _) _;obtain⟨i0,hi,Un,hz1,hz2⟩:=info_parts (show(P.info? 61).map (λi=>(i.zero,i.size,i.bytes))=some (some (.agg #[.int .i64 0, .int .i64 0]),2,16) by kernel_rfl);refine wpIn_rangeFunc_ownH rfl h1 (gf:=302) (lb:= #[.pointer (some ⟨Bs,os,none⟩)]) rfl trivial (enters_of Tryz.func302 (by kernel_rfl) rfl)
  (valuesA (n:=n-1) af (w:=w.alloc (.cells #[.slice none 0 0] 62)) (a:=a) (cap:=cap) (xs:=xs) (n₀:=w.heap.size) af hB ai ((hb1.cell (p:=⟨Bs,os,none⟩) hB).trans hBs) (hc.imp id λ⟨b,off,e,hb,h⟩=>⟨b,off,e,hb,λj u hj=>(hb1.cell (p:=⟨b,off+j,none⟩) hb).trans (h j u hj)⟩))
  belowK_t (belowK_b ai) (ij _ _) (λ_=>rfl)
  (Coll w w.heap.size) (λ_ _ _=>False) (RR _ _ _ ai) (λ_ _ _ _ _ hs _ _=>hs)
  ⟨⟨_,Boxed.new _ _ _,⟨rfl, .inl ⟨rfl,rfl⟩⟩,trivial⟩,hb1⟩
  (Elt (.func (.func 302) #[] #[.pointer (some ⟨Bs,os,none⟩)]) (.pointer (some ⟨w.heap.size,0,none⟩))) (elt_own _ _ _) ?assign ?body ?done ?stop
 case assign=>
  intro l pre x W K hI hK;obtain⟨u0,u1,hx,o0,o1⟩:=WH x;have hs0:=CE (w:=W) (c:= #[.int .i64 0, .int .i64 0]) (t:=61) (i:=0) (by decide) o0;have hs1:=CE (w:=W) (c:= #[u0, .int .i64 0]) (t:=61) (i:=1) ai o1;have hs0':Sem.run P (store ⟨W.heap.size,0,none⟩ u0) (W.alloc (.cells #[.int .i64 0, .int .i64 0] 61))= .ok () (W.alloc (.cells #[u0, .int .i64 0] 61)):=hs0;have hs1':Sem.run P (store ⟨W.heap.size,1,none⟩ u1) (W.alloc (.cells #[u0, .int .i64 0] 61))= .ok () (W.alloc (.cells #[u0,u1] 61)):=hs1;rw[hx]
  gi_wp2
  refine hK _ _ ((KeepsOthers.alloc _ _).from _) ((ij _ _).alloc hI.2.size _) (RR _ _ _ hI.2.size _ W _ none hI (World.grownBy_alloc _ _ _) (λr e=>by cases e)) ⟨W.heap.size,by rw[hx];exact World.alloc_heap_new _ _,by rw[hx]⟩
 case body=>
  rintro l pre x a' W hl _ ⟨⟨v,hv,hrow,_⟩,hB⟩ ⟨q,hq,rfl⟩ hlen;obtain⟨u0,u1,hx,o0,o1⟩:=WH x;rw[hx] at hq⊢;have c0:=hv.cell;have cq0:W.cell? ⟨q,0,none⟩=some u0:=by simp[World.cell?,hq]
  have cq1:W.cell? ⟨q,1,none⟩=some u1:=by simp[World.cell?,hq]
  have Ul:pre.length+1<=xs.length:=hlen
  gi_wp2_with (first
   |(gi_at_builtin;refine wpListIn_append_own _ rfl _ _ 62 rfl w.heap.size 61 i0 (.agg #[.int .i64 0, .int .i64 0]) 2 16 Tryz.underlying62 hi Un hz1 hz2 rfl (by decide) _ _ _ rfl (hrow.alloc _) ⟨W.heap.size,0,none⟩ 1 1 [u0,u1] rfl rfl two_new (by simp[o0,o1]) (by unfold maxLen;omega) af (by have:=hB.size;simp;omega) ?_;intro v' w3 hown' hg3 hnil3
     obtain⟨g,cap',rfl⟩:=ownsRow_succ hown';obtain⟨b1,b2,b3,b4,b5⟩:=Boxed.appended hv (by decide) hrow hB.size (aU _) hown' hg3;have c3:=b1.cell
     have f3:=b1.frozen)
   |gi_in)
  exact⟨b4.from _,b5,⟨_,b2,by simpa[flat,hx] using b3,trivial⟩,hB.trans b5⟩
 case done=>
  rintro D ys W hD rfl ⟨⟨v,h1,h2,_⟩,h3⟩ hK;have c0:=h1.cell
  gi_wp2
  refine⟨ai, .inl ⟨_,_,rfl,run_takeDeferred hK,?_⟩⟩;exact⟨_,results_tmp rfl _ _ _,_,rfl,ownsRow_putObj h2 _ hK rfl,h3.trans (belowK_b (w:=w) (aU _) W D _ _ (by simp at hD;omega) hK rfl rfl)⟩
 case stop=>rintro D c pre W _ _ h _;exact h.elim
def abb {n:Nat} (hn:4<=n) {Bs os:Nat} {a:Option Addr} {cap:Nat} {xs:List C2} {w:World} (hlen:xs.length *16<=140737488355328) (hB:Bs<w.heap.size)
  (hBs:w.cell? ⟨Bs,os,none⟩=some (.slice a xs.length cap)) (hc:xs=[]\/∃b off,a=some ⟨b,off,none⟩/\b<w.heap.size/\∀j u,(flat xs)[j]? =some u->w.cell? ⟨b,off+j,none⟩=some u):
  CallsIn Fence.wide n P 300 #[.func (.func 302) #[] #[.pointer (some ⟨Bs,os,none⟩)]] w λe w'=>∃v,e= .returned v/\w'.ownsRow w.heap.size 61 2 v xs.length (flat xs)/\Below w.heap.size w w':=by
 have h1:1<=n:=af;have hf:Fence.wide.fn 336:=trivial;refine zy Tryz.func300 rfl trivial ?_ rfl;simp only[Tryz.ntmps300,pR,bp,dH,Nat.reduceAdd,Nat.reduceSub,vc,ve,vf,vg,dK,gi]
 gi_wp2_with (gi_at_call 336;refine(aeS (n:=n-1) af hlen hB hBs hc).mono ?_;rintro e w' ⟨v,rfl,hrow,hb⟩)
 go_ret
 exact⟨v,rfl,hrow,hb⟩
