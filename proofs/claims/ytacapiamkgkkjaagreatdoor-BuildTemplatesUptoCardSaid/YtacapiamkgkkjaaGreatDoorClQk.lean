/- The comparator of closure.Codes as a plain function, by prog. -/
import Derived.Test.YtacapiamkgkkjaaGreatDoorClT
import Derived.Test.YtacapiamkgkkjaaGreatDoorClQb
import Derived.WalkKit
import Derived.Lib.SliceRun
import Derived.Lib.Walk
import Derived.Shelf.RegionOpenPlain
import Derived.Deep.LoopGhost
import Derived.RangeFuncWrites
import Derived.RangeFuncLeaves
import Derived.RangeFuncBox
import Derived.RangeFuncNested
import Derived.OwnWalkIn
import Derived.TacticsInMore
import Derived.LoopNIn
import Derived.LoopIn
import Derived.Lib.Strings
import Derived.Lib.Slices
import Derived.Lib.Bytealg
set_option linter.all false
set_option maxRecDepth 100000
namespace Go.Proofs.YtacapiamkgkkjaaGreatDoor.cl.cq
open Go Go.AM
def gT:eX:=λ_ _ _=>none
abbrev Hq:Nat->Hint:=H
noncomputable abbrev Rn:eX:=run P Hq gT
def Q0:Int->AV:=(λ(x:Int)=>((.int .i64 x):AV))
instance:fB Q0:=⟨λa b h=>by
 simp only[Q0,AV.mp.injEq,AV.int.injEq,AV.str.injEq,AV.bool.injEq,AV.dK.injEq,AV.agg.injEq,AV.gy.injEq,c9,eS,eN] at h
 exact h⟩
def Q1:Bool->AV:=(λ(x:Bool)=>((.bool x):AV))
instance:fB Q1:=⟨λa b h=>by
 simp only[Q1,AV.mp.injEq,AV.int.injEq,AV.str.injEq,AV.bool.injEq,AV.dK.injEq,AV.agg.injEq,AV.gy.injEq,c9,eS,eN] at h
 exact h⟩
def ress:List (Nat×vV):=[(255,⟨_,Q0⟩),(265,⟨_,Q0⟩),(299,⟨_,Q1⟩)]
def w6:mj:={ elem:=H8 elems,val:=H8 vals,res:=H8 ress }
noncomputable def f464 (l q:Int):Option Int:=dec (EN Q0) (Rn 255 [(.pv (.int .i64 l)),(.pv (.int .i64 q))] [])
noncomputable def f495 (l q:cD):Option Int:=dec (EN Q0) (Rn 265 [(.pv (.agg (cD.enc l))),(.pv (.agg (cD.enc q)))] [])
noncomputable def f469 (l:Int):Option Bool:=dec (EN Q1) (Rn 299 [(.pv (.int .i64 l))] [])
def e464 (w z:Int) {r:Int}
 (h:(
 Option.bind (f469 w) λq=>
 Option.bind (f469 z) λl=>
 bif q then(
 bif l then(
 some 0)
 else(
 some (-1)))
 else(
 bif l then(
 some 1)
 else(
 bif(decide (w<z)) then(
 some (-1))
 else(
 bif(decide (w>z)) then(
 some 1)
 else(
 some 0)))):Option Int)=some r):
 f464 w z=some r:=
 qT (E:=(EN Q0)) h (
 Ik λq=>
 Ik λl=>
 Ic (
 Ic (
 Is) (
 Is)) (
 Ic (
 Is) (
 Ic (
 Is) (
 Ic (
 Is) (
 Is)))))
 (by kernel_rfl) (λh=>rC (C:=w6) rfl h)
def e495 (q w:cD) {r:Int}
 (h:(
 Option.bind (f464 q.bP w.bP) λl=>
 some l:Option Int)=some r):
 f495 q w=some r:=
 qT (E:=(EN Q0)) h (
 Ik λl=>
 Is)
 (by kernel_rfl) (λh=>rC (C:=w6) rfl h)
def e469 (l:Int) {r:Bool}
 (h:(
 some (l !=l):Option Bool)=some r):
 f469 l=some r:=
 qT (E:=(EN Q1)) h (
 Is)
 (by kernel_rfl) (λh=>rC (C:=w6) rfl h)
end Go.Proofs.YtacapiamkgkkjaaGreatDoor.cl.cq
namespace Go.Proofs.YtacapiamkgkkjaaGreatDoor.cl
open Go Go.AM
namespace cq
def h96:∀x:Int,f469 x=some false:=λx=>e469 _ ai
def h50:∀x y:Int,f464 x y=some (if x<y then-1 else if y<x then 1 else 0):=by
 intro x y;refine e464 _ _ ?_;rw[h96,ak,h96,ak,au,au];by_cases l:x<y
 .rw[cond_pos (by simpa using l),aC l]
 .rw[cond_neg (by simpa using l),aA l];by_cases q:y<x
  .rw[cond_pos (by simpa using q),aC q]
  .rw[cond_neg (by simpa using q),aA q]
def arc (p:Int×Int):cD:=⟨p.1,p.2⟩
def i495 (p q:Int×Int):f495 (arc p) (arc q)=some (if p.1<q.1 then-1 else if q.1<p.1 then 1 else 0):=by refine e495 _ _ ?_;show Option.bind (f464 p.1 q.1) _=_;rw[h50,ak]
end cq
end Go.Proofs.YtacapiamkgkkjaaGreatDoor.cl
namespace Go.Proofs.YtacapiamkgkkjaaGreatDoor.cl
open Go Go.AM Go.RowKit
def ok:Ea P=true:=by kernel_rfl
def oT {g:Nat} {fn:Func} (B:P.funcs[g]? =some fn) (D:¬(fn.name= "runtime.NumGoroutine")) (w:fn.body.isSome=true) (l:Array Value) (q:World):(callFunc g l).run P q= .ok (.enter g l) q:=by obtain⟨c,z⟩:=pN.1 w;simp[callFunc,B,D,z]
def acP (f:Nat):(H f).blk=[]:=by
 have key:∀(l:List (Nat×Hint)),(l.all λp=>p.2.blk.isEmpty)=true->∀f,((find l f).getD {}).blk=[]:=by intro l;induction l with
  |nil=>intro _ f;rfl
  |cons p l q=>intro h f;rw[jG,aT] at h;simp only[find];cases w:Nat.beq p.1 f with
   |true=>rw[aj];exact zo.1 h.1
   |false=>rw[au];exact q h.2 f
 exact key hints (by kernel_rfl) f
def abK:∀f fn c,P.funcs[f]? =some fn->fn.body=some c->rV True (λ_ _=>none) P (H f) fn.ntmps c:=λf fn c _ _=>rV.none (acP f) c
def none_ok:iD True (λ_ _=>none) P cq.gT:=λg args cM r l q=>by cases q
structure SK where
 T:Type
 enc:T->List AV
 good:T->Prop
 c:T->T->Int
 ty:Nat
 cm:Nat
 two:∀x,∃a b,enc x=[a,b]
 asy:∀p q,c p q<0->¬c q p<0
 up:∀x y z,c x y<0->¬c z y<0->c x z<0
 nul:∀μ:Mu,∃p us,mw μ (enc p) us/\good p
 runs:∀x y,good x->good y->cq.Rn cm [(.pv (.agg (enc x))),(.pv (.agg (enc y)))] []=some (.int .i64 (c x y),[])
 enters:∀(us:Array Value) (w2:World),(callFunc cm us).run P w2= .ok (.enter cm us) w2
abbrev Al (S:SK) (μ:Mu):Type:={ x:S.T×List Value // mw μ (S.enc x.1) x.2/\S.good x.1 }
variable {S:SK}
noncomputable instance (μ:Mu):Inhabited (Al S μ):=⟨Classical.choice (by
 obtain⟨p,l,h⟩:=S.nul μ
 exact⟨⟨(p,l),h⟩⟩)⟩
def Al.cells {μ:Mu} (x:Al S μ):List Value:=x.1.2
def Al.len {μ:Mu} (x:Al S μ):x.cells.length=2:=by obtain⟨⟨p,z⟩,⟨h,_⟩,_⟩:=x;obtain⟨a,b,e⟩:=S.two p;have w:cH μ (S.enc p) z:=h;rw[e] at w;obtain⟨u,H,D,_,⟨G,q,B,_,l⟩⟩:=w;have F:q=[]:=l;show z.length=2;rw[D,B,F];rfl
def Al.one {μ:Mu} (x:Al S μ):∀v∈x.cells,v.oneCell'=true:=x.2.1.2
def Al.cf {μ:Mu} (x y:Al S μ):Int:=S.c x.1.1 y.1.1
def SK.lt (S:SK) (x y:S.T):Bool:=decide (S.c x y<0)
def swo {μ:Mu}:Go.Sort.SWO (ltOf (Al.cf (S:=S) (μ:=μ))) where
 irrefl x:=by show decide (S.c x.1.1 x.1.1<0)=false;exact zP λh=>S.asy _ _ h h
 trans x y z h1 h2:=by have l:S.c x.1.1 y.1.1<0:=mM h1;have q:S.c y.1.1 z.1.1<0:=mM h2;exact vv (S.up _ _ _ l (S.asy _ _ q))
 ntrans x y z h1 h2:=by have l:¬S.c x.1.1 y.1.1<0:=zQ h1;have q:¬S.c y.1.1 z.1.1<0:=zQ h2;exact zP λw=>l (S.up _ _ _ w q)
def cmp48 {D:Mu} {W:World} (B:Hz D W) (x y:Al S D):Calls P S.cm #[.agg x.cells.toArray, .agg y.cells.toArray] W λe l=>e= .returned (.int .i64 (Al.cf x y))/\∃q F,l=Go.Sort.grow (W.drewN q) F:=by
 have U:=S.runs x.1.1 y.1.1 x.2.2 y.2.2
 have V:=(iD.noY (Om (q:=True) (B:=λ_ _=>none) ok abK none_ok S.cm _ [] _ _ U W D (λ_=>undef) [.agg x.cells.toArray, .agg y.cells.toArray] (λ_ _ _ h=>by cases h) B (λid o h=>by cases h) (λi j oi oj h=>by cases h)
  ⟨_,_,rfl,(by show rep D (.agg (S.enc x.1.1)) _;rw[rep];exact⟨_,rfl,x.2.1.1,x.2.1.2⟩),_,_,rfl,(by show rep D (.agg (S.enc y.1.1)) _;rw[rep];exact⟨_,rfl,y.2.1.1,y.2.1.2⟩),rfl⟩) λxs h=>by cases h).2
 refine V.mono ?_;rintro e l ⟨v,μ',Q,rfl,w⟩;have O:=w.pure rfl;rw[rep] at O;subst O;refine⟨rfl,l.drawn-W.drawn,l.heap.extract W.heap.size l.heap.size,?_⟩;have hd:=w.drawn trivial;have z:l.heap=W.heap++l.heap.extract W.heap.size l.heap.size:=by
  apply Array.ext_getElem?;intro b;by_cases N:b<W.heap.size
  .rw[ve N];exact w.keep b N (by rintro⟨id,v,h,_⟩;simp[gJ] at h)
  .rw[Array.getElem?_append_right af,Array.getElem?_extract];have hg:=w.grown;by_cases R:b<l.heap.size
   .rw[aC af,show W.heap.size+(b-W.heap.size)=b by omega]
   .rw[aA af,EI af]
 have ext:∀{a b:World},a.heap=b.heap->a.tape=b.tape->a.drawn=b.drawn->a.os=b.os->a.output=b.output->a=b:=by intro a b G H I K L;cases a;cases b;simp only at G H I K L;subst G H I K L;rfl
 exact ext z w.tape (show l.drawn=W.drawn+(l.drawn-W.drawn) by omega) w.os w.output
end Go.Proofs.YtacapiamkgkkjaaGreatDoor.cl
namespace Go.Proofs.YtacapiamkgkkjaaGreatDoor.cl
open Go Go.AM Go.RowKit
open Go.Sort (flatK size_flatK get_flatK ext_get!)
variable {S:SK}
def abE {D:Mu}:∀{l:List S.T} {z:List Value},(∀p∈l,S.good p)->de D 2 (l.map S.enc) z->∃w:List (Al S D),w.map (λx=>x.1.1)=l/\z=(w.map Al.cells).flatten:=by intro l;induction l with
 |nil=>intro z _ h;exact⟨[],rfl,h⟩
 |cons p l K=>
  intro z B h;obtain⟨L,ws,rfl,G,N,H⟩:=h;obtain⟨w,e1,F⟩:=K (λq I=>B q (by simp[I])) H;refine⟨⟨(p,L),G,B p ai⟩::w,?_,?_⟩
  .rw[bM,e1]
  .rw[bM,vw,F];rfl
def aeR {q:Mu}:∀(l:List (Al S q)),de q 2 (l.map λx=>S.enc x.1.1) (l.map Al.cells).flatten:=by intro l;induction l with
 |nil=>rfl
 |cons x l w=>exact⟨x.cells,(l.map Al.cells).flatten,rfl,x.2.1,x.len,w⟩
def E9 {w:Mu} (l:List (Al S w)):(l.map Al.cells).flatten.length=l.length *2:=by induction l with
 |nil=>rfl
 |cons x l q=>rw[bM,vw,bR,q,x.len,bA];omega
def acw {B:Mu}:∀(l:List (Al S B)) (t:Nat),t<l.length *2->(l.map Al.cells).flatten[t]! =(l[t / 2]!).cells[t % 2]! :=by intro l;induction l with
 |nil=>intro t h;simp at h
 |cons x l z=>
  intro t h;have w:=x.len;have F:=E9 l;rw[bA] at h;rw[bM,vw];by_cases D:t<2
  .have e1:t / 2=0:=af;have q:t % 2=t:=af;rw[e1,q,qA,fM af];simp[qA]
  .obtain⟨s,rfl⟩:∃s,t=s+2:=⟨t-2,af⟩
   have e1:(s+2) / 2=s / 2+1:=af;have q:(s+2) % 2=s % 2:=af;have:=z s af;rw[qA] at this;rw[e1,q,qA,e7 af,w,show s+2-2=s by omega,this];simp[qA]
def S6 {μ:Mu} (l:List (Al S μ)):flatK Al.cells 2 l.toArray=(l.map Al.cells).flatten.toArray:=by
 refine ext_get! (by simp only[size_flatK,qg];exact(E9 l).symm) λt w=> ?_
 have q:t<l.length *2:=by simpa using w
 rw[get_flatK _ _ _ t (by simpa using q)];have:=acw l t q;simp only[EJ] at this⊢;exact this.symm
def SK.lt_asymm (S:SK) (p q:S.T) (h:S.lt p q=true):S.lt q p=false:=zP (S.asy _ _ (mM h))
def SK.lt_up (S:SK) (x y z:S.T) (h:S.lt x y=true) (l:S.lt z y=false):S.lt x z=true:=vv (S.up _ _ _ (mM h) (zQ l))
def Xk {I:Mu} {l:List S.T} (V:∀x∈l,∀y∈l,S.lt x y=false->S.lt y x=false->x=y) {q:List (Al S I)} (e:q.map (λx=>x.1.1)=l) {w:Array (Al S I)} (U:Go.Sort.PermIn 0 q.toArray.size q.toArray w) (H:Go.Sort.SortedIn (ltOf Al.cf) 0 q.toArray.size w):
  w.toList.map (λx=>x.1.1)=oM S.lt l/\w.toList.length=q.length:=by
 obtain⟨K,_,L⟩:=U;have D:w.size=q.length:=by simpa using K
 have N:w.toList.Perm q:=by
  have O:w.extract 0 q.toArray.size=w:=by rw[<-K];simp
  have P:q.toArray.extract 0 q.toArray.size=q.toArray:=ai;rw[O,P] at L;simpa using L
 refine⟨?_,by simpa using D⟩;obtain⟨s1,s2⟩:=BL S.lt S.lt_asymm S.lt_up l;have z:(w.toList.map λx=>x.1.1).Perm l:=by rw[<-e];exact N.map _
 refine IQ (lt:=S.lt) (z.trans s2.symm) ?_ s1 ?_
 .unfold lu;rw[ic,js];intro i j Q R G;have F:i<w.size:=by simpa using Q
  have B:j<w.size:=by simpa using R
  have:=H i j (cO _) G (by simpa[D] using B);rw[show ltOf Al.cf=λx y:Al S I=>S.lt x.1.1 y.1.1 from rfl,getElem!_pos w j B,getElem!_pos w i F] at this;simpa using this
 .intro x hx y hy;exact V x (z.mem_iff.1 hx) y (z.mem_iff.1 hy)
def sort47 {μ:Mu} {F:Nat->Value} {w:World} {l:List S.T} {R:Go.Shelf.Ren} (L:SlLaysF0.n6 P R) (aE:∀w,(isAgg (R.t 24)).run P w= .ok true w) (zE:∀w,(Go.sizeOf (R.t 24)).run P w= .ok 2 w) (hlen:l.length<=1073741824) (hst:∀x∈l,∀y∈l,S.lt x y=false->S.lt y x=false->x=y) (hw:∀p∈l,S.good p) (H:Hz μ w) (qF:mS w.heap.size (gJ False F [10000]) μ F w 10000 (.row S.ty 2 (l.map S.enc))):
  Calls P (R.f 6) #[F 10000, .func (.func S.cm) #[] #[]] w λe I=>∃v μ' loc',e= .returned v/\eo False μ F [10000] (.gy []) [(10000, .row S.ty 2 ((oM S.lt l).map S.enc))] w v μ' loc' I:=by
 have GF:=qF;obtain⟨vs,hown,hrc,KO⟩:=GF;rcases hown.2 with⟨e1,h0⟩|⟨g,N,cur,e1,_,hg,K,hmax,hsz,D⟩
 .have hl:l=[]:=by
   cases l with
   |nil=>rfl
   |cons a b=>simp at h0
  subst hl;have hc:Calls P (R.f 6) #[.slice none 0 0, .func (.func S.cm) #[] #[]] w λe I=>e= .returned (.tuple #[])/\I=w:=AnyF.slices_SortFunc_none L none 0 _ w
  rw[e1];refine hc.mono ?_;rintro e I ⟨rfl,rfl⟩;exact⟨_,μ,F,rfl,On H qF⟩
 .obtain⟨q,U,ha2⟩:=abE hw hrc;have hal:q.length=l.length:=by rw[<-U];simp
  have hll:(l.map S.enc).length=q.length:=by simp[hal]
  rw[hll] at e1 K D;rw[ha2] at D;have hfl:=E9 q;have hin:mb (F 10000) g:=by rw[e1];exact fP.2 rfl
  obtain⟨Q,Di⟩:=KO g hin;have hlt:g<w.heap.size:=(gm.1 hg).1;have O:∀(j:Nat),j<q.length *2->cur[j]? =(q.map Al.cells).flatten[j]? :=by
   intro j hj;have h1:(cur.toList.take (q.length *2))[j]? =(q.map Al.cells).flatten[j]? :=by rw[D]
   rw[lP,aC hj] at h1;simpa using h1
  have hH:Go.Sort.HoldsK Al.cells 2 w g 0 q.toArray:=by
   intro j hj;rw[S6] at hj⊢;have hj':j<q.length *2:=by rw[<-hfl];simpa using hj
   have V:=O j hj';have hjf:j<(q.map Al.cells).flatten.length:=af;rw[aM hjf] at V;rw[eY];refine⟨?_,?_⟩
   .unfold World.cell?;simp only[hg];rw[EJ,qA,aM hjf];simp[V]
   .unfold World.frozen?;simp[hg]
  have hcmp:CmpLays P S.cm #[] (Al.cells (S:=S) (μ:=μ)) 2 Al.cf g 0 q.toArray.size w:=by
   intro m os dk hdk x y;refine cmp48 (W:=sortWorldK Al.cells 2 w g 0 m dk os) ?_ x y;obtain⟨_,k2,_⟩:=KP (enc:=id) (n:=m) (d:=flatK Al.cells 2 dk) (os:=os) hg;intro b j z hz;have h:=H b j z hz;have hne:b≠g:=λe=>by subst e;rw[Di j] at hz;cases hz
   exact(iU (k2 b (q9 h) hne) j).trans h
  have hc:Calls P (R.f 6) #[.slice (some ⟨g,0,none⟩) q.toArray.size N, .func (.func S.cm) #[] #[]] w λe I=>e= .returned (.tuple #[])/\∃B n os,Go.Sort.PermIn 0 q.toArray.size q.toArray B/\Go.Sort.SortedIn (ltOf Al.cf) 0 q.toArray.size B/\I=sortWorldK Al.cells 2 w g 0 n B os:=
   AnyQ.slices_SortFunc L 2 aE zE Al.cells Al.len Al.one Al.cf swo S.cm #[] g 0 N q.toArray w S.enters hcmp hH hlt aH
  have hc':Calls P (R.f 6) #[.slice (some ⟨g,0,none⟩) q.length N, .func (.func S.cm) #[] #[]] w λe I=>e= .returned (.tuple #[])/\∃B n os,Go.Sort.PermIn 0 q.toArray.size q.toArray B/\Go.Sort.SortedIn (ltOf Al.cf) 0 q.toArray.size B/\I=sortWorldK Al.cells 2 w g 0 n B os:=by simpa using hc
  rw[e1];refine hc'.mono ?_;rintro e I ⟨rfl,B,n,os,hp,hso,rfl⟩;obtain⟨q1,q2⟩:=Xk hst U hp hso;have G:=E9 B.toList;have hfa:flatK Al.cells 2 B=(B.toList.map Al.cells).flatten.toArray:=by have:=S6 B.toList;simpa using this
  obtain⟨k1,k2,k3⟩:=KP (enc:=id) (n:=n) (d:=flatK Al.cells 2 B) (os:=os) hg;obtain⟨t1,t2⟩:=UX (enc:=id) (l:=(B.toList.map Al.cells).flatten) (cur:=cur) (by rw[G,q2,hsz];omega);rw[<-hfa] at t1 t2;rw[qo] at t2;have hil:(oM S.lt l).length=q.length:=by rw[<-q1,bI,q2]
  refine⟨_,μ,F,rfl,Oq (cur:=cur) (us:=(B.toList.map Al.cells).flatten) H e1 K hmax hsz Q Di k1 t1 (by rw[<-q2,<-G];exact t2) (by rw[G,q2]) k2 rfl rfl rfl k3 (by rw[bI,hil]) ?_⟩;rw[<-q1,fF];exact aeR B.toList
def Ns:∀{xs:List (List AV)} {l:List (Int×Int)},Bv xs=some l->xs=l.map SR
 |[],l,h=>by
  have:l=[]:=(fc h).symm
  subst this;rfl
 |[.int .i64 f, .int .i64 t]::xs,l,h=>by have h:(Bv xs).map ((f,t):: ·)=some l:=h;obtain⟨m,q,rfl⟩:=cu.1 h;rw[Ns q];rfl
def ZL {l:List (Int×Int)} (h:Bu l=true):∀x∈l,∀y∈l,WG x y=false->WG y x=false->x=y:=by induction l with
 |nil=>intro x G;cases G
 |cons a l K=>
  unfold Bu at h;simp only[aT,cv,gC] at h;intro x G y I D F;rcases aJ.1 G with H|z
  .rcases aJ.1 I with B|w
   .rw[H,B]
   .subst H;rcases h.1 y w with q|q
    .rw[D] at q;cases q
    .rw[F] at q;cases q
  .rcases aJ.1 I with B|w
   .subst B;rcases h.1 x z with q|q
    .rw[F] at q;cases q
    .rw[D] at q;cases q
   .exact K h.2 x z y w D F
def cA (p q:Int×Int):Int:=if p.1<q.1 then-1 else if q.1<p.1 then 1 else 0
def Vy {p q:Int×Int}:cA p q<0↔p.1<q.1:=by
 unfold cA;split
 .simp[*]
 .split<;>simp[*]
abbrev SKa:SK where
 T:=Int×Int
 enc:=SR
 good _:=True
 c:=cA
 ty:=57
 cm:=265
 two p:=⟨_,_,rfl⟩
 asy p q h h':=by rw[Vy] at h h';omega
 up x y z h h':=by rw[Vy] at *;omega
 nul μ:=⟨(0,0),[.int .i64 0, .int .i64 0],⟨⟨_,_,rfl,by rw[rep],⟨_,_,rfl,by rw[rep],rfl⟩⟩,λu l=>by
  simp only[aJ,mG,qp] at l
  rcases l with rfl|rfl<;>rfl⟩,trivial⟩
 runs x y _ _:=jN (EN cq.Q0) (cq.Rn 265 [(.pv (.agg (cD.enc (cq.arc x)))),(.pv (.agg (cD.enc (cq.arc y))))] []) _ (cq.i495 x y)
 enters:=oT Tryz.func265 (by decide) (by rfl)
def abB:SKa.lt=WG:=by
 funext p q;have h:SKa.c=cA:=by simp only[SKa]
 unfold SK.lt WG;rw[h,qv];exact Vy
end Go.Proofs.YtacapiamkgkkjaaGreatDoor.cl
set_option maxRecDepth 100000
set_option maxHeartbeats 2000000
namespace Go.Proofs.YtacapiamkgkkjaaGreatDoor.cl
open Go Go.AM Go.RowKit
def uy {H:Mu} {G:Nat->Value} {w Q:World} {e K:Nat} {xs:List (List AV)} {v:Value} {vs:List Value} {q:Qp} (V:q.p->False) (z:Hz H w) (B:Below w.heap.size w Q) (l:Q.ownsRow w.heap.size e K v xs.length vs) (P:de H K xs vs):
  eo q H G [] (.gy [.gy [.self e, .dK K xs]]) [] w v H G Q where
 ext:=Mu.ext.toL ⟨Mu.le.refl _,λ_ _ _ h=> .inl h⟩
 yx:=λb j x hx=>by have h:=z b j x hx;rw[iU (B.block b (q9 h)) j];exact h
 res:= .inr (.inr (.inr ⟨e,K,xs,vs,rfl,by
  refine⟨l.1,?_⟩;rcases l.2 with h|⟨g,D,F,R,_,L⟩
  .exact .inl h
  .exact .inr ⟨g,D,F,R,cO _,L⟩,P,λg I=>by
  have N:w.heap.size<=g:=by
   rcases l.2 with⟨h,_⟩|⟨g',D,F,h,L,_⟩
   .rw[h] at I;cases I
   .rw[h] at I;cases I;exact L
  refine⟨.inl N,λj=> ?_,λid o h=>by cases h⟩;cases U:H g j with
  |none=>rfl
  |some x=>have:=q9 (z _ _ _ U);omega⟩))
 obs:=λid o h=>by cases h
 apart:=λi j oi oj h=>by cases h
 keep:=λb O _=>B.block b O
 fix:=λid h=>by cases h
 os:=B.os
 tape:=B.tape
 output:=B.output
 grown:=B.size
 drawn:=λh=>(V h).elim
def wj {D:Mu} {w:World} {sz:Nat} {xs:List (List AV)} {a:Addr} (q:Hz D w) (L:xs.length=0\/∃b l,some a=some ⟨b,l,none⟩/\kV D sz b xs l):
  ∃B,de D sz xs B/\(∀u∈B,u.oneCell'=true)/\∀j u,B[j]? =some u->w.cell? (a.add j)=some u:=by
 rcases L with K|⟨b,l,I,z⟩
 .have:xs=[]:=by simpa using K
  subst this;exact⟨[],rfl,by simp,ai⟩
 .cases I;obtain⟨B,H,N⟩:=uO z;have F:=jB H
  exact⟨B,H,F,λj u G=>by
   rw[iQ]
   exact y8 (q _ _ _ (N j u G)) (F u (aP G))⟩
def ab0 {μ:Mu} {loc:Nat->Value} {w:World} {xs:List (List AV)} {u:Value} {q:Qp} (hq:q.p->False) (lW:Hz μ w) (hu:rep μ (.dK 1 xs) u) (hbig:xs.length *8<=140737488355328):
  Calls P 159 #[u] w λe w'=>∃v μ' loc',e= .returned v/\eo q μ loc [] (.gy [.gy [.self 3, .dK 1 xs]]) [] w v μ' loc' w':=by
 rw[rep.eq_def] at hu;dsimp only at hu;obtain⟨A,c,rfl,hc1,RY,hA⟩:=hu;have qn:∀(w:World) (a:Option Addr) (n c n' c':Nat),(binOp .eql 107 (.slice a n c) (.slice none n' c')).run P w= .ok (.bool a.isNone) w:=λw a n c n' c'=>Lib.run_eql_slice_nil w _ _ a n c n' c' Tryz.underlying107
 cases A with
 |none=>
  have h0:xs=[]:=by
   rcases hA with h|⟨b,off,e,_⟩
   .simpa using h
   .cases e
  subst h0
  go_enter Tryz.func159,Tryz.ntmps159
  go_wp2
  go_ret
  exact⟨_,μ,loc,rfl,uy hq lW (iz _ _) (vs:=[]) ⟨rfl, .inl ⟨rfl,rfl⟩⟩ rfl⟩
 |some a=>
  obtain⟨us,wD,h1,hcell⟩:=wj lW hA;have xC:=cK wD;obtain⟨i0,hi,KR,hz1,R1⟩:=info_parts (show(P.info? 3).map (λi=>(i.zero,i.size,i.bytes))=some (some (.int .i64 0),1,8) by kernel_rfl);have u107:∀w,Sem.run P (underlying 107) w= .ok (TypeDesc.slice 3) w:=bz Tryz.underlying107
  go_enter Tryz.func159,Tryz.ntmps159
  go_wp2_with (at_builtin;refine vz _ rfl _ _ 107 rfl w.heap.size 3 i0 (.int .i64 0) 1 8 Tryz.underlying107 hi KR hz1 R1 rfl (by decide) _ _ _ rfl (vA w #[] 0 (aQ _) (cO _) rfl) a xs.length c us rfl ?qc1 ?qc2 h1 ?qc4 ?qc5 ?qc6 ?_)
  case qc1=>exact xC
  case qc2=>exact λj u hj=>Lib.cell?_alloc_some _ (hcell j u hj)
  case qc4=>omega
  case qc5=>omega
  case qc6=>simp
  intro v' w1 hown hgrow hnil
  go_wp2
  go_ret
  exact⟨_,μ,loc,rfl,uy hq lW (((iz _ w).alloc (aQ _) _).grown hgrow ai (by intro k hk;simp[Value.ownBlock] at hk;omega)) (by simpa using hown) wD⟩
def abZ {μ:Mu} {loc:Nat->Value} {w:World} {xs:List (List AV)} {u:Value} {q:Qp} (hq:q.p->False) (lW:Hz μ w) (hu:rep μ (.dK 2 xs) u) (hbig:xs.length *32<=140737488355328):
  Calls P 111 #[u] w λe w'=>∃v μ' loc',e= .returned v/\eo q μ loc [] (.gy [.gy [.self 60, .dK 2 xs]]) [] w v μ' loc' w':=by
 rw[rep.eq_def] at hu;dsimp only at hu;obtain⟨A,c,rfl,hc1,RY,hA⟩:=hu;have qn:∀(w:World) (a:Option Addr) (n c n' c':Nat),(binOp .eql 28 (.slice a n c) (.slice none n' c')).run P w= .ok (.bool a.isNone) w:=λw a n c n' c'=>Lib.run_eql_slice_nil w _ _ a n c n' c' Tryz.underlying28
 cases A with
 |none=>
  have h0:xs=[]:=by
   rcases hA with h|⟨b,off,e,_⟩
   .simpa using h
   .cases e
  subst h0
  go_enter Tryz.func111,Tryz.ntmps111
  go_wp2
  go_ret
  exact⟨_,μ,loc,rfl,uy hq lW (iz _ _) (vs:=[]) ⟨rfl, .inl ⟨rfl,rfl⟩⟩ rfl⟩
 |some a=>
  obtain⟨us,wD,h1,hcell⟩:=wj lW hA;have xC:=cK wD;obtain⟨i0,hi,KR,hz1,R1⟩:=info_parts (show(P.info? 60).map (λi=>(i.zero,i.size,i.bytes))=some (some (.agg #[.int .i64 0, .slice none 0 0]),2,32) by kernel_rfl);have u28:∀w,Sem.run P (underlying 28) w= .ok (TypeDesc.slice 60) w:=bz Tryz.underlying28
  go_enter Tryz.func111,Tryz.ntmps111
  go_wp2_with (at_builtin;refine vz _ rfl _ _ 28 rfl w.heap.size 60 i0 (.agg #[.int .i64 0, .slice none 0 0]) 2 32 Tryz.underlying28 hi KR hz1 R1 rfl (by decide) _ _ _ rfl (vA w #[] 0 (aQ _) (cO _) rfl) a xs.length c us rfl ?qc1 ?qc2 h1 ?qc4 ?qc5 ?qc6 ?_)
  case qc1=>exact xC
  case qc2=>exact λj u hj=>Lib.cell?_alloc_some _ (hcell j u hj)
  case qc4=>omega
  case qc5=>omega
  case qc6=>simp
  intro v' w1 hown hgrow hnil
  go_wp2
  go_ret
  exact⟨_,μ,loc,rfl,uy hq lW (((iz _ w).alloc (aQ _) _).grown hgrow ai (by intro k hk;simp[Value.ownBlock] at hk;omega)) (by simpa using hown) wD⟩
def clone31 {μ:Mu} {loc:Nat->Value} {w:World} {xs:List (List AV)} {u:Value} {q:Qp} (hq:q.p->False) (lW:Hz μ w) (hu:rep μ (.dK 3 xs) u) (hbig:xs.length *64<=140737488355328):
  Calls P 31 #[u] w λe w'=>∃v μ' loc',e= .returned v/\eo q μ loc [] (.gy [.gy [.self 66, .dK 3 xs]]) [] w v μ' loc' w':=by
 rw[rep.eq_def] at hu;dsimp only at hu;obtain⟨A,c,rfl,hc1,RY,hA⟩:=hu;have qn:∀(w:World) (a:Option Addr) (n c n' c':Nat),(binOp .eql 38 (.slice a n c) (.slice none n' c')).run P w= .ok (.bool a.isNone) w:=λw a n c n' c'=>Lib.run_eql_slice_nil w _ _ a n c n' c' Tryz.underlying38
 cases A with
 |none=>
  have h0:xs=[]:=by
   rcases hA with h|⟨b,off,e,_⟩
   .simpa using h
   .cases e
  subst h0
  go_enter Tryz.func31,Tryz.ntmps31
  go_wp2
  go_ret
  exact⟨_,μ,loc,rfl,uy hq lW (iz _ _) (vs:=[]) ⟨rfl, .inl ⟨rfl,rfl⟩⟩ rfl⟩
 |some a=>
  obtain⟨us,wD,h1,hcell⟩:=wj lW hA;have xC:=cK wD;obtain⟨i0,hi,KR,hz1,R1⟩:=info_parts (show(P.info? 66).map (λi=>(i.zero,i.size,i.bytes))=some (some (.agg #[.string ⟨#[]⟩, .slice none 0 0, .slice none 0 0]),3,64) by kernel_rfl);have u38:∀w,Sem.run P (underlying 38) w= .ok (TypeDesc.slice 66) w:=bz Tryz.underlying38
  go_enter Tryz.func31,Tryz.ntmps31
  go_wp2_with (at_builtin;refine vz _ rfl _ _ 38 rfl w.heap.size 66 i0 (.agg #[.string ⟨#[]⟩, .slice none 0 0, .slice none 0 0]) 3 64 Tryz.underlying38 hi KR hz1 R1 rfl (by decide) _ _ _ rfl (vA w #[] 0 (aQ _) (cO _) rfl) a xs.length c us rfl ?qc1 ?qc2 h1 ?qc4 ?qc5 ?qc6 ?_)
  case qc1=>exact xC
  case qc2=>exact λj u hj=>Lib.cell?_alloc_some _ (hcell j u hj)
  case qc4=>omega
  case qc5=>omega
  case qc6=>simp
  intro v' w1 hown hgrow hnil
  go_wp2
  go_ret
  exact⟨_,μ,loc,rfl,uy hq lW (((iz _ w).alloc (aQ _) _).grown hgrow ai (by intro k hk;simp[Value.ownBlock] at hk;omega)) (by simpa using hown) wD⟩
def clone62 {μ:Mu} {loc:Nat->Value} {w:World} {xs:List (List AV)} {u:Value} {q:Qp} (hq:q.p->False) (lW:Hz μ w) (hu:rep μ (.dK 6 xs) u) (hbig:xs.length *112<=140737488355328):
  Calls P 62 #[u] w λe w'=>∃v μ' loc',e= .returned v/\eo q μ loc [] (.gy [.gy [.self 62, .dK 6 xs]]) [] w v μ' loc' w':=by
 rw[rep.eq_def] at hu;dsimp only at hu;obtain⟨A,c,rfl,hc1,RY,hA⟩:=hu;have qn:∀(w:World) (a:Option Addr) (n c n' c':Nat),(binOp .eql 23 (.slice a n c) (.slice none n' c')).run P w= .ok (.bool a.isNone) w:=λw a n c n' c'=>Lib.run_eql_slice_nil w _ _ a n c n' c' Tryz.underlying23
 cases A with
 |none=>
  have h0:xs=[]:=by
   rcases hA with h|⟨b,off,e,_⟩
   .simpa using h
   .cases e
  subst h0
  go_enter Tryz.func62,Tryz.ntmps62
  go_wp2
  go_ret
  exact⟨_,μ,loc,rfl,uy hq lW (iz _ _) (vs:=[]) ⟨rfl, .inl ⟨rfl,rfl⟩⟩ rfl⟩
 |some a=>
  obtain⟨us,wD,h1,hcell⟩:=wj lW hA;have xC:=cK wD;obtain⟨i0,hi,KR,hz1,R1⟩:=info_parts (show(P.info? 62).map (λi=>(i.zero,i.size,i.bytes))=some (some (.agg #[.string ⟨#[]⟩, .int .i64 0, .string ⟨#[]⟩, .slice none 0 0, .slice none 0 0, .slice none 0 0]),6,112) by kernel_rfl);have u23:∀w,Sem.run P (underlying 23) w= .ok (TypeDesc.slice 62) w:=bz Tryz.underlying23
  go_enter Tryz.func62,Tryz.ntmps62
  go_wp2_with (at_builtin;refine vz _ rfl _ _ 23 rfl w.heap.size 62 i0 (.agg #[.string ⟨#[]⟩, .int .i64 0, .string ⟨#[]⟩, .slice none 0 0, .slice none 0 0, .slice none 0 0]) 6 112 Tryz.underlying23 hi KR hz1 R1 rfl (by decide) _ _ _ rfl (vA w #[] 0 (aQ _) (cO _) rfl) a xs.length c us rfl ?qc1 ?qc2 h1 ?qc4 ?qc5 ?qc6 ?_)
  case qc1=>exact xC
  case qc2=>exact λj u hj=>Lib.cell?_alloc_some _ (hcell j u hj)
  case qc4=>omega
  case qc5=>omega
  case qc6=>simp
  intro v' w1 hown hgrow hnil
  go_wp2
  go_ret
  exact⟨_,μ,loc,rfl,uy hq lW (((iz _ w).alloc (aQ _) _).grown hgrow ai (by intro k hk;simp[Value.ownBlock] at hk;omega)) (by simpa using hown) wD⟩
end Go.Proofs.YtacapiamkgkkjaaGreatDoor.cl
set_option maxRecDepth 100000
set_option maxHeartbeats 2000000
namespace Go.Proofs.YtacapiamkgkkjaaGreatDoor.cl
open Go Go.AM Go.RowKit
attribute [local go_sem] Oper.semAt_some
abbrev C2:Type:={ l:List Value // l.length=2/\∀u∈l,u.oneCell'=true }
def flat (l:List C2):List Value:=(l.map (·.1)).flatten
def abO:∀{l:List C2} {k:Nat} {x:C2} {j:Nat} {u:Value},l[k]? =some x->x.1[j]? =some u->(flat l)[k *2+j]? =some u:=by intro l;induction l with
 |nil=>intro k x j u h;simp at h
 |cons y l z=>intro k x j u h q;have w:=y.2.1;simp only[flat,bM,vw];cases k with
  |zero=>simp only[EC,aW] at h;subst h;have:=(bu.1 q).1;rw[fM af];simpa using q
  |succ k=>rw[e7 af,w,show(k+1) *2+j-2=k *2+j by omega];exact z (by simpa using h) q
def Xu (x:C2):∃a b,x.1=[a,b]/\a.oneCell'=true/\b.oneCell'=true:=by obtain⟨q,h,l⟩:=x;match q,h with
 |[a,b],_=>exact⟨a,b,rfl,l a ai,l b ai⟩
def CK {w:World} {c:Array Value} {t i:Nat} {v:Value} (B:i<c.size) (D:v.oneCell'=true):
  Sem.run P (store ⟨w.heap.size,i,none⟩ v) (w.alloc (.cells c t))= .ok () (w.alloc (.cells (c.setIfInBounds i v) t)):=by
 have l:=World.alloc_heap_new w (.cells c t);have q:(w.alloc (.cells c t)).cell? ⟨w.heap.size,i,none⟩=some c[i]:=by simp only[World.cell?,l];simp[B]
 have z:(w.alloc (.cells c t)).frozen? ⟨w.heap.size,i,none⟩=false:=by simp only[World.frozen?,l];simp
 rw[run_store _ _ _ _ _ D,q];simp[z,World.setCell_alloc_new]
def two_new {w:World} {l q:Value} {t:TypeId}:∀(j:Nat) (u:Value),[l,q][j]? =some u->(w.alloc (.cells #[l,q] t)).cell? ((⟨w.heap.size,0,none⟩:Addr).add j)=some u:=by intro j u z;rw[iQ];have:=World.alloc_heap_new w (.cells #[l,q] t);simp only[World.cell?,this];simpa using z
def valuesA {n:Nat} (hn:1<=n) {Bs os n₀:Nat} {a:Option Addr} {cap:Nat} {xs:List C2} {w:World} (hcap:xs.length<4611686018427387904) (hB:Bs<n₀) (hn₀:n₀<=w.heap.size)
  (hBs:w.cell? ⟨Bs,os,none⟩=some (.slice a xs.length cap)) (hc:xs=[]\/∃b off,a=some ⟨b,off,none⟩/\b<n₀/\∀j u,(flat xs)[j]? =some u->w.cell? ⟨b,off+j,none⟩=some u):
  SeqStopsK Fence.wide n P 305 #[.pointer (some ⟨Bs,os,none⟩)] (λx:C2=> #[.agg x.1.toArray]) (Below n₀) (λys=>ys=xs) (λ_=>True) xs.length w:=λl J Jx W hW hJ _ hY h0=>by
 have hw:Below n₀ w W:=hW.mono hn₀;replace hBs:=(hw.cell (p:=⟨Bs,os,none⟩) hB).trans hBs;replace hc:xs=[]\/∃b off,a=some ⟨b,off,none⟩/\b<n₀/\∀j u,(flat xs)[j]? =some u->W.cell? ⟨b,off+j,none⟩=some u:=hc.imp id λ⟨b,off,e,hb,h⟩=>⟨b,off,e,hb,λj u hj=>(hw.cell (p:=⟨b,off+j,none⟩) hb).trans (h j u hj)⟩
 replace hn₀:=fk hn₀ hW.size;refine zR Tryz.func305 rfl trivial ?_ rfl;simp only[Tryz.ntmps305,qg,bA,fK,Nat.reduceAdd,Nat.reduceSub,vB,vC,vD,vE,dU,gB]
 gi_wp2
 gi_loopw [7] (λi wr=>∃k:Nat,k<=xs.length/\i= .int .i64 k/\J (xs.take k) wr/\Below n₀ W wr)
  (λi _=>xs.length-(intOf i).toNat)
 case atStart=>exact⟨0,cO _,rfl,by simpa using h0,iz _ _⟩
 case round=>
  obtain⟨k,hk,rfl,hJs,hnx⟩:=hrel;by_cases hlt:k<xs.length
  .obtain⟨u0,u1,hx,o0,o1⟩:=Xu xs[k];obtain⟨b,off,rfl,hb,hcc⟩:∃b off,a=some ⟨b,off,none⟩/\b<n₀/\∀j u,(flat xs)[j]? =some u->W.cell? ⟨b,off+j,none⟩=some u:=by
    rcases hc with h|h
    .subst h;simp at hlt
    .exact h
   have hg:=aM hlt;have hc0:wr.cell? ⟨b,off+k *2,none⟩=some u0:=(hnx.cell (p:=⟨b,off+k *2,none⟩) hb).trans (hcc _ _ (abO (j:=0) hg (by rw[hx];rfl)));have hc1:wr.cell? ⟨b,off+k *2+1,none⟩=some u1:=(hnx.cell (p:=⟨b,off+k *2+1,none⟩) hb).trans (hcc _ _ (abO (j:=1) hg (by rw[hx];rfl)));have hs0:=CK (w:=wr) (c:= #[.int .i64 0, .int .i64 0]) (t:=57) (i:=0) (by decide) o0;have hs1:=CK (w:=wr) (c:= #[u0, .int .i64 0]) (t:=57) (i:=1) ai o1;have hs0':Sem.run P (store ⟨wr.heap.size,0,none⟩ u0) (wr.alloc (.cells #[.int .i64 0, .int .i64 0] 57))= .ok () (wr.alloc (.cells #[u0, .int .i64 0] 57)):=hs0;have hs1':Sem.run P (store ⟨wr.heap.size,1,none⟩ u1) (wr.alloc (.cells #[u0, .int .i64 0] 57))= .ok () (wr.alloc (.cells #[u0,u1] 57)):=hs1;have hJ2:J (xs.take k) (wr.alloc (.cells #[u0,u1] 57)):=hJ _ wr _ none hJs (World.grownBy_alloc _ _ _) (λr e=>by cases e);obtain⟨fn,tmps,assign,body,hy,hR⟩:=hY _ xs[k] _ hJ2 aH;rw[hx] at hy
   gi_wp2
   refine hR.mono ?_;rintro e W3 (⟨rfl,hJ3,hk3⟩|⟨rfl,hJ3⟩)
   .gi_wp2
    go_roundw
    case rel=>exact⟨k+1,by omega,by simp,by rw[dy,hg];exact hJ3,(hnx.alloc (fk hn₀ hnx.size) _).trans hk3⟩
    case measure=>simp[intOf];omega
   .gi_wp2
    refine bodyPost_ret (results_none rfl _ _ _) rfl ?_;exact⟨⟨_,rfl⟩, .inr ⟨_,trivial,hJ3⟩⟩
  .obtain rfl:k=xs.length:=by omega
   gi_wp2
   go_end0
   exact⟨⟨_,rfl⟩, .inl ⟨_,rfl,by simpa using hJs⟩⟩
def Coll (l:World) (q:Nat) (pre:List C2) (W:World):Prop:=
 (∃v,Boxed W q 58 v/\W.ownsRow l.heap.size 57 2 v pre.length (flat pre)/\True)/\Below l.heap.size l W
def SF (l:World) (q B:Nat) (w:l.heap.size<=B):OwnFrom B (Coll l q):=
 OwnFrom.and (Own.from (holdsRow_own l.heap.size q 58 57 2 (λs:List C2=>s.length) flat (λ_ _=>True)) _) (ownFrom_below (aQ _) w)
def Elt (l b:Value) (x:C2) (w:Act) (W:World):Prop:=
 ∃q,W.heap[q]? =some (.cells x.1.toArray 57 (0,0))/\w={ tmps:= #[.slice none 0 0,l,b,undef, .slice none 0 0, .pointer (some ⟨q,0,none⟩),l, .agg x.1.toArray,undef,undef,undef,undef,undef],defers:=[] }
def elt_own (z b:Value) (B:Nat) (x:C2) (w:Act):OwnFrom B (λ(_:Unit) W=>Elt z b x w W):=λs A C row H F G=>by obtain⟨q,h,e⟩:=H;refine⟨q,(F.block q (gm.1 h).1 λe=> ?_).trans h,e⟩;obtain⟨_,o,l,D⟩:=G q e.symm;rw[h] at l;cases l;cases D
def af1 {n:Nat} (hn:3<=n) {Bs os:Nat} {a:Option Addr} {cap:Nat} {xs:List C2} {w:World} (hlen:xs.length *16<=140737488355328) (hB:Bs<w.heap.size)
  (hBs:w.cell? ⟨Bs,os,none⟩=some (.slice a xs.length cap)) (hc:xs=[]\/∃b off,a=some ⟨b,off,none⟩/\b<w.heap.size/\∀j u,(flat xs)[j]? =some u->w.cell? ⟨b,off+j,none⟩=some u):
  CallsIn Fence.wide n P 336 #[.slice none 0 0, .func (.func 305) #[] #[.pointer (some ⟨Bs,os,none⟩)]] w λe w'=>∃v,e= .returned v/\w'.ownsRow w.heap.size 57 2 v xs.length (flat xs)/\Below w.heap.size w w':=by
 have h1:1<=n:=af;refine callsIn_of_wp_marks Tryz.func336 rfl trivial ?_ rfl;simp only[Tryz.ntmps336,qg,bA,fK,Nat.reduceAdd,Nat.reduceSub,vB,vC,vD,vE,dU,gB]
 gi_wp2
 have hb1:Below w.heap.size w (w.alloc (.cells #[.slice none 0 0] 58)):=(iz _ w).alloc (aQ _) _;obtain⟨i0,hi,KR,hz1,R1⟩:=info_parts (show(P.info? 57).map (λi=>(i.zero,i.size,i.bytes))=some (some (.agg #[.int .i64 0, .int .i64 0]),2,16) by kernel_rfl);refine wpIn_rangeFunc_ownH rfl h1 (gf:=305) (lb:= #[.pointer (some ⟨Bs,os,none⟩)]) rfl trivial (enters_of Tryz.func305 (by kernel_rfl) rfl)
  (valuesA (n:=n-1) af (w:=w.alloc (.cells #[.slice none 0 0] 58)) (a:=a) (cap:=cap) (xs:=xs) (n₀:=w.heap.size) af hB ai ((hb1.cell (p:=⟨Bs,os,none⟩) hB).trans hBs) (hc.imp id λ⟨b,off,e,hb,h⟩=>⟨b,off,e,hb,λj u hj=>(hb1.cell (p:=⟨b,off+j,none⟩) hb).trans (h j u hj)⟩))
  belowK_t (belowK_b ai) (iz _ _) (λ_=>rfl)
  (Coll w w.heap.size) (λ_ _ _=>False) (SF _ _ _ ai) (λ_ _ _ _ _ hs _ _=>hs)
  ⟨⟨_,Boxed.new _ _ _,⟨rfl, .inl ⟨rfl,rfl⟩⟩,trivial⟩,hb1⟩
  (Elt (.func (.func 305) #[] #[.pointer (some ⟨Bs,os,none⟩)]) (.pointer (some ⟨w.heap.size,0,none⟩))) (elt_own _ _ _) ?assign ?body ?done ?stop
 case assign=>
  intro l pre x W K hI hK;obtain⟨u0,u1,hx,o0,o1⟩:=Xu x;have hs0:=CK (w:=W) (c:= #[.int .i64 0, .int .i64 0]) (t:=57) (i:=0) (by decide) o0;have hs1:=CK (w:=W) (c:= #[u0, .int .i64 0]) (t:=57) (i:=1) ai o1;have hs0':Sem.run P (store ⟨W.heap.size,0,none⟩ u0) (W.alloc (.cells #[.int .i64 0, .int .i64 0] 57))= .ok () (W.alloc (.cells #[u0, .int .i64 0] 57)):=hs0;have hs1':Sem.run P (store ⟨W.heap.size,1,none⟩ u1) (W.alloc (.cells #[u0, .int .i64 0] 57))= .ok () (W.alloc (.cells #[u0,u1] 57)):=hs1;rw[hx]
  gi_wp2
  refine hK _ _ ((KeepsOthers.alloc _ _).from _) ((iz _ _).alloc hI.2.size _) (SF _ _ _ hI.2.size _ W _ none hI (World.grownBy_alloc _ _ _) (λr e=>by cases e)) ⟨W.heap.size,by rw[hx];exact World.alloc_heap_new _ _,by rw[hx]⟩
 case body=>
  rintro l pre x a' W hl _ ⟨⟨v,hv,hrow,_⟩,hB⟩ ⟨q,hq,rfl⟩ hlen;obtain⟨u0,u1,hx,o0,o1⟩:=Xu x;rw[hx] at hq⊢;have c0:=hv.cell;have cq0:W.cell? ⟨q,0,none⟩=some u0:=by simp[World.cell?,hq]
  have cq1:W.cell? ⟨q,1,none⟩=some u1:=by simp[World.cell?,hq]
  have Pt:pre.length+1<=xs.length:=hlen
  gi_wp2_with (first
   |(gi_at_builtin;refine wpListIn_append_own _ rfl _ _ 58 rfl w.heap.size 57 i0 (.agg #[.int .i64 0, .int .i64 0]) 2 16 Tryz.underlying58 hi KR hz1 R1 rfl (by decide) _ _ _ rfl (hrow.alloc _) ⟨W.heap.size,0,none⟩ 1 1 [u0,u1] rfl rfl two_new (by simp[o0,o1]) (by unfold maxLen;omega) af (by have:=hB.size;simp;omega) ?_;intro v' w3 hown' hg3 hnil3
     obtain⟨g,cap',rfl⟩:=ownsRow_succ hown';obtain⟨b1,b2,b3,b4,b5⟩:=Boxed.appended hv (by decide) hrow hB.size (aQ _) hown' hg3;have c3:=b1.cell
     have f3:=b1.frozen)
   |gi_in)
  exact⟨b4.from _,b5,⟨_,b2,by simpa[flat,hx] using b3,trivial⟩,hB.trans b5⟩
 case done=>
  rintro D ys W hD rfl ⟨⟨v,h1,h2,_⟩,h3⟩ hK;have c0:=h1.cell
  gi_wp2
  refine⟨ai, .inl ⟨_,_,rfl,run_takeDeferred hK,?_⟩⟩;exact⟨_,results_tmp rfl _ _ _,_,rfl,ownsRow_putObj h2 _ hK rfl,h3.trans (belowK_b (w:=w) (aQ _) W D _ _ (by simp at hD;omega) hK rfl rfl)⟩
 case stop=>rintro D c pre W _ _ h _;exact h.elim
def ab3 {n:Nat} (hn:4<=n) {Bs os:Nat} {a:Option Addr} {cap:Nat} {xs:List C2} {w:World} (hlen:xs.length *16<=140737488355328) (hB:Bs<w.heap.size)
  (hBs:w.cell? ⟨Bs,os,none⟩=some (.slice a xs.length cap)) (hc:xs=[]\/∃b off,a=some ⟨b,off,none⟩/\b<w.heap.size/\∀j u,(flat xs)[j]? =some u->w.cell? ⟨b,off+j,none⟩=some u):
  CallsIn Fence.wide n P 303 #[.func (.func 305) #[] #[.pointer (some ⟨Bs,os,none⟩)]] w λe w'=>∃v,e= .returned v/\w'.ownsRow w.heap.size 57 2 v xs.length (flat xs)/\Below w.heap.size w w':=by
 have h1:1<=n:=af;have hf:Fence.wide.fn 336:=trivial;refine zR Tryz.func303 rfl trivial ?_ rfl;simp only[Tryz.ntmps303,qg,bA,fK,Nat.reduceAdd,Nat.reduceSub,vB,vC,vD,vE,dU,gB]
 gi_wp2_with (gi_at_call 336;refine(af1 (n:=n-1) af hlen hB hBs hc).mono ?_;rintro e w' ⟨v,rfl,hrow,hb⟩)
 go_ret
 exact⟨v,rfl,hrow,hb⟩
end Go.Proofs.YtacapiamkgkkjaaGreatDoor.cl
set_option maxRecDepth 100000
set_option maxHeartbeats 2000000
namespace Go.Proofs.YtacapiamkgkkjaaGreatDoor.cl
open Go Go.AM Go.RowKit
attribute [local go_sem] Oper.semAt_some
def Al.c2 {S:SK} {l:Mu} (x:Al S l):C2:=⟨x.cells,x.len,x.one⟩
def XW {S:SK} {q:Mu} (l:List (Al S q)):flat (l.map Al.c2)=(l.map Al.cells).flatten:=by simp[flat,Al.c2,nW]
def sortedA {μ:Mu} {loc:Nat->Value} {w:World} {xs:List (List AV)} {l:List (Int×Int)} {u:Value} (lW:Hz μ w) (hl:Bv xs=some l) (hap:Bu l=true) (hlen:l.length<=1073741824) (hu:rep μ (.fn 305 [.ref [.dK 2 xs]]) u):
  Calls P 263 #[u, .func (.func 265) #[] #[]] w λe w'=>∃v μ' loc',e= .returned v/\eo False μ loc [] (.gy [.gy [.self 57, .dK 2 ((oM WG l).map SR)]]) [] w v μ' loc' w':=by
 have hxs:=Ns hl;subst hxs;rw[rep.eq_def] at hu;dsimp only at hu;obtain⟨vs,rfl,p,vs',rfl,hp,hvs'⟩:=hu
 have:vs'=[]:=hvs'
 subst this;rw[rep.eq_def] at hp;dsimp only at hp;obtain⟨b,off,cs,rfl,⟨sl,cs',rfl,hsl,hcs'⟩,h1c,hc⟩:=hp
 have:cs'=[]:=hcs'
 subst this;have hsl0:=hc 0 sl rfl;rw[mO] at hsl0;rw[rep.eq_def] at hsl;dsimp only at hsl;obtain⟨A,c,rfl,hc1,RY,hA⟩:=hsl;have hcell:=y8 (lW _ _ _ hsl0) rfl;have hlt:=q9 (lW _ _ _ hsl0);obtain⟨als,ha1,hcc⟩:∃als:List (Al SKa μ),als.map (λx=>x.1.1)=l/\(als.map Al.c2=[]\/∃b off,A=some ⟨b,off,none⟩/\b<w.heap.size/\∀j u,(flat (als.map Al.c2))[j]? =some u->w.cell? ⟨b,off+j,none⟩=some u):=by
  rcases hA with h0|⟨b',off',ea,hrow⟩
  .have:l=[]:=by simpa using h0
   subst this;exact⟨[],rfl, .inl rfl⟩
  .obtain⟨us,k1,k2⟩:=uO hrow;have k3:=jB k1;obtain⟨als,e1,e2⟩:=abE (S:=SKa) (l:=l) (λp _=>trivial) k1;refine⟨als,e1,?_⟩;cases hl0:als with
   |nil=>exact .inl rfl
   |cons x0 als0=>
    rw[<-hl0];refine .inr ⟨b',off',ea,?_,λj u hj=> ?_⟩
    .have hx:=x0.len;obtain⟨u0,hu0⟩:∃u0,us[0]? =some u0:=by
      rw[e2,hl0];cases hx':x0.cells with
      |nil=>rw[hx'] at hx;simp at hx
      |cons a t=>exact⟨a,by simp[hx']⟩
     exact q9 (lW _ _ _ (k2 0 u0 hu0))
    .rw[XW,<-e2] at hj;exact y8 (lW _ _ _ (k2 j u hj)) (k3 u (aP hj))
 have hal:(als.map Al.c2).length=l.length:=by rw[<-ha1];simp
 have hll:(l.map SR).length=(als.map Al.c2).length:=by rw[hal];simp
 rw[hll] at hcell;refine(u7 (n:=9)).1 ?_;have hf1:Fence.wide.fn 303:=trivial;have hf2:Fence.wide.fn 304:=trivial;have hn:1<=9:=by decide
 refine zR Tryz.func263 rfl trivial ?_ rfl;simp only[Tryz.ntmps263,qg,bA,fK,Nat.reduceAdd,Nat.reduceSub,vB,vC,vD,vE,dU,gB]
 gi_wp2_with (gi_at_call 303;refine(ab3 (n:=8) af (xs:=als.map Al.c2) af hlt hcell hcc).mono ?_;rintro e w1 ⟨v,rfl,hrow,hb⟩)
 have hpub1:Hz μ w1:=λb j x hx=>by have h:=lW b j x hx;rw[iU (hb.block b (q9 h)) j];exact h
 have hbase:∀g,mb v g->w.heap.size<=g:=λg hg=>by
  rcases hrow.2 with⟨e,_⟩|⟨g',cap,cur,e,h2,_⟩
  .rw[e] at hg;rcases hg with hg|⟨us,hg,_⟩<;>cases hg
  .rw[e] at hg;rcases hg with hg|⟨us,hg,_⟩
   .cases hg;exact h2
   .cases hg
 have Di:∀g,mb v g->∀j,μ g j=none:=λg hg j=>by cases hm:μ g j with
  |none=>rfl
  |some x=>have:=q9 (lW _ _ _ hm);have:=hbase g hg;omega
 have hrc:de μ 2 (l.map SR) (flat (als.map Al.c2)):=by rw[XW,<-ha1,fF];exact aeR als
 have qF:mS w1.heap.size (gJ False (λ_=>v) [10000]) μ (λ_=>v) w1 10000 (.row 57 2 (l.map SR)):=by
  refine⟨_,?_,hrc,λg hg=>⟨.inr (.inr ⟨v,by simp[gJ],hg⟩),Di g hg⟩⟩;rw[hll];refine⟨hrow.1,?_⟩;rcases hrow.2 with h|⟨g,cap,cur,h1,_,h2⟩
  .exact .inl h
  .exact .inr ⟨g,cap,cur,h1,cO _,h2⟩
 have hs:=sort47 (S:=SKa) (l:=l) Tryz.laysF6a Tryz.isAgg57 Tryz.sizeOf57 hlen (by rw[abB];exact ZL hap) (λp _=>trivial) hpub1 qF;rw[abB] at hs;refine((u7 (n:=8)).2 hs).mono ?_;rintro e w2 ⟨v2,μ2,loc2,rfl,hP⟩
 gi_wp2
 go_ret
 have Tm:=hP.fix 10000 ai (by decide) (by decide);obtain⟨vs2,Fg,aap,hbl2⟩:=hP.obs 10000 _ rfl;rw[Tm] at Fg hbl2;have hin:∀g,bH v=some g->mb v g:=λg hg=> .inl hg
 have hk:∀b,b<w.heap.size->w2.heap[b]? =w.heap[b]? :=λb hlt=>
  (hP.keep b (fo hlt hb.size) (by
   rintro⟨id,v',h1,h2⟩
   have:v'=v:=by
    simp only[gJ] at h1;split at h1
    .exact(fc h1).symm
    .cases h1
   rw[this] at h2
   have:=hbase b h2;omega)).trans (hb.block b hlt)
 refine⟨_,μ2,loc,rfl,?_⟩
 exact {
  ext:=⟨hP.ext.1,λb j x hx=>by
   rcases hP.ext.2 b j x hx with h|h|⟨id,_,h1,h2,hx,_⟩
   .exact .inl h
   .exact .inr (.inl (fk hb.size h))
   .simp only[gJ] at hx;split at hx
    .rename_i hm;simp at hm;omega
    .cases hx⟩
  yx:=hP.yx
  res:= .inr (.inr (.inr ⟨57,2,_,vs2,rfl,Fg,aap,λg hg=>⟨.inl (hbase g (hin g hg)),(hbl2 g (hin g hg)).2,λid o h=>by cases h⟩⟩))
  obs:=λid o h=>by cases h
  apart:=λi j oi oj h=>by cases h
  keep:=λb hlt _=>hk b hlt
  fix:=λid h=>by cases h
  os:=hP.os.trans hb.os
  tape:=hP.tape.trans hb.tape
  output:=hP.output.trans hb.output
  grown:=fk hb.size hP.grown
  drawn:=λh=>h.elim }
end Go.Proofs.YtacapiamkgkkjaaGreatDoor.cl
set_option maxRecDepth 100000
set_option maxHeartbeats 2000000
namespace Go.Proofs.YtacapiamkgkkjaaGreatDoor.cl
open Go Go.AM Go.RowKit
def cmp119 (a b:ByteArray) (w:World):Calls P 119 #[.string a, .string b] w λe w'=>e= .returned (.int .i64 (Lib.compareBytes a.data.toList b.data.toList))/\w'=w:=by
 go_enter Tryz.func119,Tryz.ntmps119
 go_wp2
 rw[run_callFunc_extern Tryz.func170 (by kernel_rfl) (by kernel_rfl) (by kernel_rfl) (e:=Extern.BytealgCompare.compare) (by kernel_rfl),Lib.run_compareString];simp only[Result.andThen];rw[Oper.upon_value]
 go_wp2
 go_ret
 exact⟨rfl,rfl⟩
def cmp65 (a b:ByteArray) (w:World):Calls P 65 #[.string a, .string b] w λe w'=>e= .returned (.int .i64 (Lib.compareBytes a.data.toList b.data.toList))/\w'=w:=by
 go_enter Tryz.func65,Tryz.ntmps65
 go_wp2_with (go_at_call 119;refine(cmp119 _ _ _).mono ?_;rintro e w' ⟨rfl,rfl⟩)
 go_ret
 exact⟨rfl,rfl⟩
def Kt:∀a b:List UInt8,Lib.compareBytes a b=Ks a b
 |[],[]=>rfl
 |[],_::_=>rfl
 |a::x,[]=>by have e:(a::x==([]:List UInt8))=false:=rfl;unfold Ks;rw[e];rfl
 |a::x,b::y=>by
  have z:=Kt x y;unfold Lib.compareBytes;unfold Ks at z⊢;unfold Op.bytesLess;by_cases l:a<b
  .simp[l]
  .by_cases q:b<a
   .have w:a≠b:=λe=>l (e▸q)
    have e1:(a==b)=false:=by simpa using w
    simp[l,q,e1]
   .have B:a=b:=UInt8.le_antisymm (UInt8.not_lt.1 q) (UInt8.not_lt.1 l);subst B;rw[aA l,aA l,z];simp[l]
