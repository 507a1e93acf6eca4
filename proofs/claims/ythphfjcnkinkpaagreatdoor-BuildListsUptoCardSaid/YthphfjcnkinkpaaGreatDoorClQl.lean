/- slices.SortFunc, taken as a primitive, is sound. -/
import Derived.Test.YthphfjcnkinkpaaGreatDoorClQc
import Derived.WalkKit
import Derived.Lib.SliceRun
import Derived.Lib.Walk
import Derived.Shelf.RegionOpenPlain
import Derived.Deep.LoopGhost
import Derived.RangeFuncWrites
import Derived.RangeFuncLeaves
import Derived.RangeFuncBox
import Derived.RangeFuncNested
import Derived.OwnWalkIn
import Derived.TacticsInMore
import Derived.LoopNIn
import Derived.LoopIn
import Derived.Lib.Strings
import Derived.Lib.Slices
import Derived.Lib.Bytealg
import Derived.Deep.RegionLaw
import Derived.Deep.Upon
set_option linter.all false
namespace Go.Proofs.YthphfjcnkinkpaaGreatDoor.cl
open Go Go.AM Go.RowKit
open Go.Sort (flatK size_flatK get_flatK ext_get!)
variable {S:SK}
def aaW {D:Mu}:∀{l:List S.T} {z:List Value},(∀p∈l,S.good p)->cV D 2 (l.map S.enc) z->∃w:List (Al S D),w.map (λx=>x.1.1)=l/\z=(w.map Al.cells).flatten:=by intro l;induction l with
 |nil=>intro z _ h;exact⟨[],rfl,h⟩
 |cons p l K=>
  intro z B h;obtain⟨L,ws,rfl,G,N,H⟩:=h;obtain⟨w,e1,F⟩:=K (λq I=>B q (by simp[I])) H;refine⟨⟨(p,L),G,B p ai⟩::w,?_,?_⟩
  .rw[bH,e1]
  .rw[bH,vk,F];rfl
def adU {q:Mu}:∀(l:List (Al S q)),cV q 2 (l.map λx=>S.enc x.1.1) (l.map Al.cells).flatten:=by intro l;induction l with
 |nil=>rfl
 |cons x l w=>exact⟨x.cells,(l.map Al.cells).flatten,rfl,x.2.1,x.len,w⟩
def E8 {w:Mu} (l:List (Al S w)):(l.map Al.cells).flatten.length=l.length *2:=by induction l with
 |nil=>rfl
 |cons x l q=>rw[bH,vk,bQ,q,x.len,bz];omega
def abJ {B:Mu}:∀(l:List (Al S B)) (t:Nat),t<l.length *2->(l.map Al.cells).flatten[t]! =(l[t / 2]!).cells[t % 2]! :=by intro l;induction l with
 |nil=>intro t h;simp at h
 |cons x l z=>
  intro t h;have w:=x.len;have F:=E8 l;rw[bz] at h;rw[bH,vk];by_cases D:t<2
  .have e1:t / 2=0:=af;have q:t % 2=t:=af;rw[e1,q,qb,eU af];simp[qb]
  .obtain⟨s,rfl⟩:∃s,t=s+2:=⟨t-2,af⟩
   have e1:(s+2) / 2=s / 2+1:=af;have q:(s+2) % 2=s % 2:=af;have:=z s af;rw[qb] at this;rw[e1,q,qb,fP af,w,show s+2-2=s by omega,this];simp[qb]
def SF {μ:Mu} (l:List (Al S μ)):flatK Al.cells 2 l.toArray=(l.map Al.cells).flatten.toArray:=by
 refine ext_get! (by simp only[size_flatK,q8];exact(E8 l).symm) λt w=> ?_
 have q:t<l.length *2:=by simpa using w
 rw[get_flatK _ _ _ t (by simpa using q)];have:=abJ l t q;simp only[EJ] at this⊢;exact this.symm
def SK.lt_asymm (S:SK) (p q:S.T) (h:S.lt p q=true):S.lt q p=false:=vj (S.asy _ _ (lU h))
def SK.lt_up (S:SK) (x y z:S.T) (h:S.lt x y=true) (l:S.lt z y=false):S.lt x z=true:=qa (S.up _ _ _ (lU h) (zT l))
def WO {I:Mu} {l:List S.T} (V:∀x∈l,∀y∈l,S.lt x y=false->S.lt y x=false->x=y) {q:List (Al S I)} (e:q.map (λx=>x.1.1)=l) {w:Array (Al S I)} (U:Go.Sort.PermIn 0 q.toArray.size q.toArray w) (H:Go.Sort.SortedIn (ltOf Al.cf) 0 q.toArray.size w):
  w.toList.map (λx=>x.1.1)=tO S.lt l/\w.toList.length=q.length:=by
 obtain⟨K,_,L⟩:=U;have D:w.size=q.length:=by simpa using K
 have N:w.toList.Perm q:=by
  have O:w.extract 0 q.toArray.size=w:=by rw[<-K];simp
  have P:q.toArray.extract 0 q.toArray.size=q.toArray:=ai;rw[O,P] at L;simpa using L
 refine⟨?_,by simpa using D⟩;obtain⟨s1,s2⟩:=BZ S.lt S.lt_asymm S.lt_up l;have z:(w.toList.map λx=>x.1.1).Perm l:=by rw[<-e];exact N.map _
 refine Io (lt:=S.lt) (z.trans s2.symm) ?_ s1 ?_
 .unfold mK;rw[jI,nM];intro i j Q R G;have F:i<w.size:=by simpa using Q
  have B:j<w.size:=by simpa using R
  have:=H i j (cS _) G (by simpa[D] using B);rw[show ltOf Al.cf=λx y:Al S I=>S.lt x.1.1 y.1.1 from rfl,getElem!_pos w j B,getElem!_pos w i F] at this;simpa using this
 .intro x hx y hy;exact V x (z.mem_iff.1 hx) y (z.mem_iff.1 hy)
def sort47 {μ:Mu} {F:Nat->Value} {w:World} {l:List S.T} {R:Go.Shelf.Ren} (L:SlLaysF0.n6 P R) (aE:∀w,(isAgg (R.t 24)).run P w= .ok true w) (zE:∀w,(Go.sizeOf (R.t 24)).run P w= .ok 2 w) (hlen:l.length<=1073741824) (hst:∀x∈l,∀y∈l,S.lt x y=false->S.lt y x=false->x=y) (hw:∀p∈l,S.good p) (H:Mm μ w) (sV:nU w.heap.size (gY False F [10000]) μ F w 10000 (.row S.ty 2 (l.map S.enc))):
  Calls P (R.f 6) #[F 10000, .func (.func S.cm) #[] #[]] w λe I=>∃v μ' loc',e= .returned v/\fJ False μ F [10000] (.gU []) [(10000, .row S.ty 2 ((tO S.lt l).map S.enc))] w v μ' loc' I:=by
 have Kw:=sV;obtain⟨vs,hown,hrc,hbl⟩:=Kw;rcases hown.2 with⟨e1,h0⟩|⟨g,N,cur,e1,_,hg,K,hmax,hsz,D⟩
 .have hl:l=[]:=by
   cases l with
   |nil=>rfl
   |cons a b=>simp at h0
  subst hl;have hc:Calls P (R.f 6) #[.slice none 0 0, .func (.func S.cm) #[] #[]] w λe I=>e= .returned (.tuple #[])/\I=w:=AnyF.slices_SortFunc_none L none 0 _ w
  rw[e1];refine hc.mono ?_;rintro e I ⟨rfl,rfl⟩;exact⟨_,μ,F,rfl,NZ H sV⟩
 .obtain⟨q,U,ha2⟩:=aaW hw hrc;have hal:q.length=l.length:=by rw[<-U];simp
  have hll:(l.map S.enc).length=q.length:=by simp[hal]
  rw[hll] at e1 K D;rw[ha2] at D;have hfl:=E8 q;have hin:mE (F 10000) g:=by rw[e1];exact iJ.2 rfl
  obtain⟨Q,I4⟩:=hbl g hin;have hlt:g<w.heap.size:=(mu.1 hg).1;have O:∀(j:Nat),j<q.length *2->cur[j]? =(q.map Al.cells).flatten[j]? :=by
   intro j hj;have h1:(cur.toList.take (q.length *2))[j]? =(q.map Al.cells).flatten[j]? :=by rw[D]
   rw[oQ,aB hj] at h1;simpa using h1
  have hH:Go.Sort.HoldsK Al.cells 2 w g 0 q.toArray:=by
   intro j hj;rw[SF] at hj⊢;have hj':j<q.length *2:=by rw[<-hfl];simpa using hj
   have V:=O j hj';have hjf:j<(q.map Al.cells).flatten.length:=af;rw[aM hjf] at V;rw[eF];refine⟨?_,?_⟩
   .unfold World.cell?;simp only[hg];rw[EJ,qb,aM hjf];simp[V]
   .unfold World.frozen?;simp[hg]
  have hcmp:CmpLays P S.cm #[] (Al.cells (S:=S) (μ:=μ)) 2 Al.cf g 0 q.toArray.size w:=by
   intro m os dk hdk x y;refine cmp48 (W:=sortWorldK Al.cells 2 w g 0 m dk os) ?_ x y;obtain⟨_,k2,_⟩:=Ku (enc:=id) (n:=m) (d:=flatK Al.cells 2 dk) (os:=os) hg;intro b j z hz;have h:=H b j z hz;have hne:b≠g:=λe=>by subst e;rw[I4 j] at hz;cases hz
   exact(jf (k2 b (sK h) hne) j).trans h
  have hc:Calls P (R.f 6) #[.slice (some ⟨g,0,none⟩) q.toArray.size N, .func (.func S.cm) #[] #[]] w λe I=>e= .returned (.tuple #[])/\∃B n os,Go.Sort.PermIn 0 q.toArray.size q.toArray B/\Go.Sort.SortedIn (ltOf Al.cf) 0 q.toArray.size B/\I=sortWorldK Al.cells 2 w g 0 n B os:=
   AnyQ.slices_SortFunc L 2 aE zE Al.cells Al.len Al.one Al.cf swo S.cm #[] g 0 N q.toArray w S.enters hcmp hH hlt aH
  have hc':Calls P (R.f 6) #[.slice (some ⟨g,0,none⟩) q.length N, .func (.func S.cm) #[] #[]] w λe I=>e= .returned (.tuple #[])/\∃B n os,Go.Sort.PermIn 0 q.toArray.size q.toArray B/\Go.Sort.SortedIn (ltOf Al.cf) 0 q.toArray.size B/\I=sortWorldK Al.cells 2 w g 0 n B os:=by simpa using hc
  rw[e1];refine hc'.mono ?_;rintro e I ⟨rfl,B,n,os,hp,hso,rfl⟩;obtain⟨q1,q2⟩:=WO hst U hp hso;have G:=E8 B.toList;have hfa:flatK Al.cells 2 B=(B.toList.map Al.cells).flatten.toArray:=by have:=SF B.toList;simpa using this
  obtain⟨k1,k2,k3⟩:=Ku (enc:=id) (n:=n) (d:=flatK Al.cells 2 B) (os:=os) hg;obtain⟨t1,t2⟩:=Uu (enc:=id) (l:=(B.toList.map Al.cells).flatten) (cur:=cur) (by rw[G,q2,hsz];omega);rw[<-hfa] at t1 t2;rw[lJ] at t2;have hil:(tO S.lt l).length=q.length:=by rw[<-q1,bf,q2]
  refine⟨_,μ,F,rfl,N2 (cur:=cur) (us:=(B.toList.map Al.cells).flatten) H e1 K hmax hsz Q I4 k1 t1 (by rw[<-q2,<-G];exact t2) (by rw[G,q2]) k2 rfl rfl rfl k3 (by rw[bf,hil]) ?_⟩;rw[<-q1,eG];exact adU B.toList
def M5:∀{xs:List (List AV)} {l:List (Int×Int)},BD xs=some l->xs=l.map Sv
 |[],l,h=>by
  have:l=[]:=(fe h).symm
  subst this;rfl
 |[.int .i64 f, .int .i64 t]::xs,l,h=>by have h:(BD xs).map ((f,t):: ·)=some l:=h;obtain⟨m,q,rfl⟩:=cL.1 h;rw[M5 q];rfl
def Y7 {l:List (Int×Int)} (h:BC l=true):∀x∈l,∀y∈l,We x y=false->We y x=false->x=y:=by induction l with
 |nil=>intro x G;cases G
 |cons a l K=>
  unfold BC at h;simp only[aU,cI,gx] at h;intro x G y I D F;rcases aN.1 G with H|z
  .rcases aN.1 I with B|w
   .rw[H,B]
   .subst H;rcases h.1 y w with q|q
    .rw[D] at q;cases q
    .rw[F] at q;cases q
  .rcases aN.1 I with B|w
   .subst B;rcases h.1 x z with q|q
    .rw[F] at q;cases q
    .rw[D] at q;cases q
   .exact K h.2 x z y w D F
def cA (p q:Int×Int):Int:=if p.1<q.1 then-1 else if q.1<p.1 then 1 else 0
def U8 {p q:Int×Int}:cA p q<0↔p.1<q.1:=by
 unfold cA;split
 .simp[*]
 .split<;>simp[*]
abbrev SKa:SK where
 T:=Int×Int
 enc:=Sv
 good _:=True
 c:=cA
 ty:=68
 cm:=147
 two p:=⟨_,_,rfl⟩
 asy p q h h':=by rw[U8] at h h';omega
 up x y z h h':=by rw[U8] at *;omega
 nul μ:=⟨(0,0),[.int .i64 0, .int .i64 0],⟨⟨_,_,rfl,by rw[rep],⟨_,_,rfl,by rw[rep],rfl⟩⟩,λu l=>by
  simp only[aN,nC,pQ] at l
  rcases l with rfl|rfl<;>rfl⟩,trivial⟩
 runs x y _ _:=iZ (EN cq.Q0) (cq.Rn 147 [(.pv (.agg (b9.enc (cq.arc x)))),(.pv (.agg (b9.enc (cq.arc y))))] []) _ (cq.i495 x y)
 enters:=qg Tryz.func147 (by decide) (by rfl)
def aaU:SKa.lt=We:=by
 funext p q;have h:SKa.c=cA:=by simp only[SKa]
 unfold SK.lt We;rw[h,u7];exact U8
end Go.Proofs.YthphfjcnkinkpaaGreatDoor.cl
set_option maxRecDepth 100000
set_option maxHeartbeats 2000000
namespace Go.Proofs.YthphfjcnkinkpaaGreatDoor.cl
open Go Go.AM Go.RowKit
def tT {H:Mu} {G:Nat->Value} {w Q:World} {e K:Nat} {xs:List (List AV)} {v:Value} {vs:List Value} {q:Qp} (V:q.p->False) (z:Mm H w) (B:Below w.heap.size w Q) (l:Q.ownsRow w.heap.size e K v xs.length vs) (P:cV H K xs vs):
  fJ q H G [] (.gU [.gU [.self e, .dD K xs]]) [] w v H G Q where
 ext:=Mu.ext.toL ⟨Mu.le.refl _,λ_ _ _ h=> .inl h⟩
 yz:=λb j x hx=>by have h:=z b j x hx;rw[jf (B.block b (sK h)) j];exact h
 res:= .inr (.inr (.inr ⟨e,K,xs,vs,rfl,by
  refine⟨l.1,?_⟩;rcases l.2 with h|⟨g,D,F,R,_,L⟩
  .exact .inl h
  .exact .inr ⟨g,D,F,R,cS _,L⟩,P,λg I=>by
  have N:w.heap.size<=g:=by
   rcases l.2 with⟨h,_⟩|⟨g',D,F,h,L,_⟩
   .rw[h] at I;cases I
   .rw[h] at I;cases I;exact L
  refine⟨.inl N,λj=> ?_,λid o h=>by cases h⟩;cases U:H g j with
  |none=>rfl
  |some x=>have:=sK (z _ _ _ U);omega⟩))
 obs:=λid o h=>by cases h
 apart:=λi j oi oj h=>by cases h
 keep:=λb O _=>B.block b O
 fix:=λid h=>by cases h
 os:=B.os
 tape:=B.tape
 output:=B.output
 grown:=B.size
 drawn:=λh=>(V h).elim
theorem EV {D:Mu} {w:World} {I:Nat} {xs:List (List AV)} {a:Addr} (q:Mm D w) (N:xs.length=0\/∃b l,some a=some ⟨b,l,none⟩/\lE D I b xs l):
  ∃B,cV D I xs B/\(∀u∈B,u.oneCell'=true)/\∀j u,B[j]? =some u->w.cell? (a.add j)=some u:=by
 rcases N with L|⟨b,l,K,z⟩
 .have:xs=[]:=by simpa using L
  subst this;exact⟨[],rfl,by simp,ai⟩
 .cases K;obtain⟨B,H,O⟩:=ux z;have F:=kI H
  exact⟨B,H,F,λj u G=>by
   rw[zU]
   exact za (q _ _ _ (O j u G)) (F u (aV G))⟩
def abg {μ:Mu} {loc:Nat->Value} {w:World} {xs:List (List AV)} {u:Value} {q:Qp} (hq:q.p->False) (oD:Mm μ w) (hu:rep μ (.dD 1 xs) u) (hbig:xs.length *8<=140737488355328):
  Calls P 197 #[u] w λe w'=>∃v μ' loc',e= .returned v/\fJ q μ loc [] (.gU [.gU [.self 3, .dD 1 xs]]) [] w v μ' loc' w':=by
 rw[rep.eq_def] at hu;dsimp only at hu;obtain⟨A,c,rfl,hc1,VB,hA⟩:=hu;have qn:∀(w:World) (a:Option Addr) (n c n' c':Nat),(binOp .eql 51 (.slice a n c) (.slice none n' c')).run P w= .ok (.bool a.isNone) w:=λw a n c n' c'=>Lib.run_eql_slice_nil w _ _ a n c n' c' Tryz.underlying51
 cases A with
 |none=>
  have h0:xs=[]:=by
   rcases hA with h|⟨b,off,e,_⟩
   .simpa using h
   .cases e
  subst h0
  go_enter Tryz.func197,Tryz.ntmps197
  go_wp2
  go_ret
  exact⟨_,μ,loc,rfl,tT hq oD (gW _ _) (vs:=[]) ⟨rfl, .inl ⟨rfl,rfl⟩⟩ rfl⟩
 |some a=>
  obtain⟨us,BX,h1,hcell⟩:=EV oD hA;have HQ:=cZ BX;obtain⟨i0,hi,UI,hz1,hz2⟩:=info_parts (show(P.info? 3).map (λi=>(i.zero,i.size,i.bytes))=some (some (.int .i64 0),1,8) by kernel_rfl);have u107:∀w,Sem.run P (underlying 51) w= .ok (TypeDesc.slice 3) w:=bR Tryz.underlying51
  go_enter Tryz.func197,Tryz.ntmps197
  go_wp2_with (at_builtin;refine vm _ rfl _ _ 51 rfl w.heap.size 3 i0 (.int .i64 0) 1 8 Tryz.underlying51 hi UI hz1 hz2 rfl (by decide) _ _ _ rfl (vn w #[] 0 (aR _) (cS _) rfl) a xs.length c us rfl ?qc1 ?qc2 h1 ?qc4 ?qc5 ?qc6 ?_)
  case qc1=>exact HQ
  case qc2=>exact λj u hj=>Lib.cell?_alloc_some _ (hcell j u hj)
  case qc4=>omega
  case qc5=>omega
  case qc6=>simp
  intro v' w1 hown hgrow Kv
  go_wp2
  go_ret
  exact⟨_,μ,loc,rfl,tT hq oD (((gW _ w).alloc (aR _) _).grown hgrow ai (by intro k hk;simp[Value.ownBlock] at hk;omega)) (by simpa using hown) BX⟩
def abf {μ:Mu} {loc:Nat->Value} {w:World} {xs:List (List AV)} {u:Value} {q:Qp} (hq:q.p->False) (oD:Mm μ w) (hu:rep μ (.dD 2 xs) u) (hbig:xs.length *32<=140737488355328):
  Calls P 44 #[u] w λe w'=>∃v μ' loc',e= .returned v/\fJ q μ loc [] (.gU [.gU [.self 71, .dD 2 xs]]) [] w v μ' loc' w':=by
 rw[rep.eq_def] at hu;dsimp only at hu;obtain⟨A,c,rfl,hc1,VB,hA⟩:=hu;have qn:∀(w:World) (a:Option Addr) (n c n' c':Nat),(binOp .eql 28 (.slice a n c) (.slice none n' c')).run P w= .ok (.bool a.isNone) w:=λw a n c n' c'=>Lib.run_eql_slice_nil w _ _ a n c n' c' Tryz.underlying28
 cases A with
 |none=>
  have h0:xs=[]:=by
   rcases hA with h|⟨b,off,e,_⟩
   .simpa using h
   .cases e
  subst h0
  go_enter Tryz.func44,Tryz.ntmps44
  go_wp2
  go_ret
  exact⟨_,μ,loc,rfl,tT hq oD (gW _ _) (vs:=[]) ⟨rfl, .inl ⟨rfl,rfl⟩⟩ rfl⟩
 |some a=>
  obtain⟨us,BX,h1,hcell⟩:=EV oD hA;have HQ:=cZ BX;obtain⟨i0,hi,UI,hz1,hz2⟩:=info_parts (show(P.info? 71).map (λi=>(i.zero,i.size,i.bytes))=some (some (.agg #[.int .i64 0, .slice none 0 0]),2,32) by kernel_rfl);have u28:∀w,Sem.run P (underlying 28) w= .ok (TypeDesc.slice 71) w:=bR Tryz.underlying28
  go_enter Tryz.func44,Tryz.ntmps44
  go_wp2_with (at_builtin;refine vm _ rfl _ _ 28 rfl w.heap.size 71 i0 (.agg #[.int .i64 0, .slice none 0 0]) 2 32 Tryz.underlying28 hi UI hz1 hz2 rfl (by decide) _ _ _ rfl (vn w #[] 0 (aR _) (cS _) rfl) a xs.length c us rfl ?qc1 ?qc2 h1 ?qc4 ?qc5 ?qc6 ?_)
  case qc1=>exact HQ
  case qc2=>exact λj u hj=>Lib.cell?_alloc_some _ (hcell j u hj)
  case qc4=>omega
  case qc5=>omega
  case qc6=>simp
  intro v' w1 hown hgrow Kv
  go_wp2
  go_ret
  exact⟨_,μ,loc,rfl,tT hq oD (((gW _ w).alloc (aR _) _).grown hgrow ai (by intro k hk;simp[Value.ownBlock] at hk;omega)) (by simpa using hown) BX⟩
def clone31 {μ:Mu} {loc:Nat->Value} {w:World} {xs:List (List AV)} {u:Value} {q:Qp} (hq:q.p->False) (oD:Mm μ w) (hu:rep μ (.dD 3 xs) u) (hbig:xs.length *64<=140737488355328):
  Calls P 72 #[u] w λe w'=>∃v μ' loc',e= .returned v/\fJ q μ loc [] (.gU [.gU [.self 76, .dD 3 xs]]) [] w v μ' loc' w':=by
 rw[rep.eq_def] at hu;dsimp only at hu;obtain⟨A,c,rfl,hc1,VB,hA⟩:=hu;have qn:∀(w:World) (a:Option Addr) (n c n' c':Nat),(binOp .eql 38 (.slice a n c) (.slice none n' c')).run P w= .ok (.bool a.isNone) w:=λw a n c n' c'=>Lib.run_eql_slice_nil w _ _ a n c n' c' Tryz.underlying38
 cases A with
 |none=>
  have h0:xs=[]:=by
   rcases hA with h|⟨b,off,e,_⟩
   .simpa using h
   .cases e
  subst h0
  go_enter Tryz.func72,Tryz.ntmps72
  go_wp2
  go_ret
  exact⟨_,μ,loc,rfl,tT hq oD (gW _ _) (vs:=[]) ⟨rfl, .inl ⟨rfl,rfl⟩⟩ rfl⟩
 |some a=>
  obtain⟨us,BX,h1,hcell⟩:=EV oD hA;have HQ:=cZ BX;obtain⟨i0,hi,UI,hz1,hz2⟩:=info_parts (show(P.info? 76).map (λi=>(i.zero,i.size,i.bytes))=some (some (.agg #[.string ⟨#[]⟩, .slice none 0 0, .slice none 0 0]),3,64) by kernel_rfl);have u38:∀w,Sem.run P (underlying 38) w= .ok (TypeDesc.slice 76) w:=bR Tryz.underlying38
  go_enter Tryz.func72,Tryz.ntmps72
  go_wp2_with (at_builtin;refine vm _ rfl _ _ 38 rfl w.heap.size 76 i0 (.agg #[.string ⟨#[]⟩, .slice none 0 0, .slice none 0 0]) 3 64 Tryz.underlying38 hi UI hz1 hz2 rfl (by decide) _ _ _ rfl (vn w #[] 0 (aR _) (cS _) rfl) a xs.length c us rfl ?qc1 ?qc2 h1 ?qc4 ?qc5 ?qc6 ?_)
  case qc1=>exact HQ
  case qc2=>exact λj u hj=>Lib.cell?_alloc_some _ (hcell j u hj)
  case qc4=>omega
  case qc5=>omega
  case qc6=>simp
  intro v' w1 hown hgrow Kv
  go_wp2
  go_ret
  exact⟨_,μ,loc,rfl,tT hq oD (((gW _ w).alloc (aR _) _).grown hgrow ai (by intro k hk;simp[Value.ownBlock] at hk;omega)) (by simpa using hown) BX⟩
def clone62 {μ:Mu} {loc:Nat->Value} {w:World} {xs:List (List AV)} {u:Value} {q:Qp} (hq:q.p->False) (oD:Mm μ w) (hu:rep μ (.dD 6 xs) u) (hbig:xs.length *112<=140737488355328):
  Calls P 116 #[u] w λe w'=>∃v μ' loc',e= .returned v/\fJ q μ loc [] (.gU [.gU [.self 73, .dD 6 xs]]) [] w v μ' loc' w':=by
 rw[rep.eq_def] at hu;dsimp only at hu;obtain⟨A,c,rfl,hc1,VB,hA⟩:=hu;have qn:∀(w:World) (a:Option Addr) (n c n' c':Nat),(binOp .eql 23 (.slice a n c) (.slice none n' c')).run P w= .ok (.bool a.isNone) w:=λw a n c n' c'=>Lib.run_eql_slice_nil w _ _ a n c n' c' Tryz.underlying23
 cases A with
 |none=>
  have h0:xs=[]:=by
   rcases hA with h|⟨b,off,e,_⟩
   .simpa using h
   .cases e
  subst h0
  go_enter Tryz.func116,Tryz.ntmps116
  go_wp2
  go_ret
  exact⟨_,μ,loc,rfl,tT hq oD (gW _ _) (vs:=[]) ⟨rfl, .inl ⟨rfl,rfl⟩⟩ rfl⟩
 |some a=>
  obtain⟨us,BX,h1,hcell⟩:=EV oD hA;have HQ:=cZ BX;obtain⟨i0,hi,UI,hz1,hz2⟩:=info_parts (show(P.info? 73).map (λi=>(i.zero,i.size,i.bytes))=some (some (.agg #[.string ⟨#[]⟩, .int .i64 0, .string ⟨#[]⟩, .slice none 0 0, .slice none 0 0, .slice none 0 0]),6,112) by kernel_rfl);have u23:∀w,Sem.run P (underlying 23) w= .ok (TypeDesc.slice 73) w:=bR Tryz.underlying23
  go_enter Tryz.func116,Tryz.ntmps116
  go_wp2_with (at_builtin;refine vm _ rfl _ _ 23 rfl w.heap.size 73 i0 (.agg #[.string ⟨#[]⟩, .int .i64 0, .string ⟨#[]⟩, .slice none 0 0, .slice none 0 0, .slice none 0 0]) 6 112 Tryz.underlying23 hi UI hz1 hz2 rfl (by decide) _ _ _ rfl (vn w #[] 0 (aR _) (cS _) rfl) a xs.length c us rfl ?qc1 ?qc2 h1 ?qc4 ?qc5 ?qc6 ?_)
  case qc1=>exact HQ
  case qc2=>exact λj u hj=>Lib.cell?_alloc_some _ (hcell j u hj)
  case qc4=>omega
  case qc5=>omega
  case qc6=>simp
  intro v' w1 hown hgrow Kv
  go_wp2
  go_ret
  exact⟨_,μ,loc,rfl,tT hq oD (((gW _ w).alloc (aR _) _).grown hgrow ai (by intro k hk;simp[Value.ownBlock] at hk;omega)) (by simpa using hown) BX⟩
end Go.Proofs.YthphfjcnkinkpaaGreatDoor.cl
set_option maxRecDepth 100000
set_option maxHeartbeats 2000000
namespace Go.Proofs.YthphfjcnkinkpaaGreatDoor.cl
open Go Go.AM Go.RowKit
attribute [local go_sem] Oper.semAt_some
abbrev C2:Type:={ l:List Value // l.length=2/\∀u∈l,u.oneCell'=true }
def flat (l:List C2):List Value:=(l.map (·.1)).flatten
theorem aa5:∀{l:List C2} {k:Nat} {x:C2} {j:Nat} {u:Value},l[k]? =some x->x.1[j]? =some u->(flat l)[k *2+j]? =some u:=by intro l;induction l with
 |nil=>intro k x j u h;simp at h
 |cons y l z=>intro k x j u h q;have w:=y.2.1;simp only[flat,bH,vk];cases k with
  |zero=>simp only[List.getElem?_cons_zero,bg] at h;subst h;have:=(bP.1 q).1;rw[eU af];simpa using q
  |succ k=>rw[fP af,w,show(k+1) *2+j-2=k *2+j by omega];exact z (by simpa using h) q
def WZ (x:C2):∃a b,x.1=[a,b]/\a.oneCell'=true/\b.oneCell'=true:=by obtain⟨q,h,l⟩:=x;match q,h with
 |[a,b],_=>exact⟨a,b,rfl,l a ai,l b ai⟩
def CR {w:World} {c:Array Value} {t i:Nat} {v:Value} (B:i<c.size) (D:v.oneCell'=true):
  Sem.run P (store ⟨w.heap.size,i,none⟩ v) (w.alloc (.cells c t))= .ok () (w.alloc (.cells (c.setIfInBounds i v) t)):=by
 have l:=World.alloc_heap_new w (.cells c t);have q:(w.alloc (.cells c t)).cell? ⟨w.heap.size,i,none⟩=some c[i]:=by simp only[World.cell?,l];simp[B]
 have z:(w.alloc (.cells c t)).frozen? ⟨w.heap.size,i,none⟩=false:=by simp only[World.frozen?,l];simp
 rw[run_store _ _ _ _ _ D,q];simp[z,World.setCell_alloc_new]
def two_new {w:World} {l q:Value} {t:TypeId}:∀(j:Nat) (u:Value),[l,q][j]? =some u->(w.alloc (.cells #[l,q] t)).cell? ((⟨w.heap.size,0,none⟩:Addr).add j)=some u:=by intro j u z;rw[zU];have:=World.alloc_heap_new w (.cells #[l,q] t);simp only[World.cell?,this];simpa using z
def valuesA {n:Nat} (hn:1<=n) {Bs os n₀:Nat} {a:Option Addr} {cap:Nat} {xs:List C2} {w:World} (hcap:xs.length<4611686018427387904) (hB:Bs<n₀) (hn₀:n₀<=w.heap.size)
  (hBs:w.cell? ⟨Bs,os,none⟩=some (.slice a xs.length cap)) (hc:xs=[]\/∃b off,a=some ⟨b,off,none⟩/\b<n₀/\∀j u,(flat xs)[j]? =some u->w.cell? ⟨b,off+j,none⟩=some u):
  SeqStopsK Fence.wide n P 200 #[.pointer (some ⟨Bs,os,none⟩)] (λx:C2=> #[.agg x.1.toArray]) (Below n₀) (λys=>ys=xs) (λ_=>True) xs.length w:=λl J Jx W hW hJ _ hY h0=>by
 have hw:Below n₀ w W:=hW.mono hn₀;replace hBs:=(hw.cell (p:=⟨Bs,os,none⟩) hB).trans hBs;replace hc:xs=[]\/∃b off,a=some ⟨b,off,none⟩/\b<n₀/\∀j u,(flat xs)[j]? =some u->W.cell? ⟨b,off+j,none⟩=some u:=hc.imp id λ⟨b,off,e,hb,h⟩=>⟨b,off,e,hb,λj u hj=>(hw.cell (p:=⟨b,off+j,none⟩) hb).trans (h j u hj)⟩
 replace hn₀:=fO hn₀ hW.size;refine zV Tryz.func200 rfl trivial ?_ rfl;simp only[Tryz.ntmps200,q8,bz,eO,Nat.reduceAdd,Nat.reduceSub,vo,vp,vq,vr,dK,gF]
 gi_wp2
 gi_loopw [7] (λi wr=>∃k:Nat,k<=xs.length/\i= .int .i64 k/\J (xs.take k) wr/\Below n₀ W wr)
  (λi _=>xs.length-(intOf i).toNat)
 case atStart=>exact⟨0,cS _,rfl,by simpa using h0,gW _ _⟩
 case round=>
  obtain⟨k,hk,rfl,hJs,hnx⟩:=hrel;by_cases hlt:k<xs.length
  .obtain⟨u0,u1,hx,o0,o1⟩:=WZ xs[k];obtain⟨b,off,rfl,hb,hcc⟩:∃b off,a=some ⟨b,off,none⟩/\b<n₀/\∀j u,(flat xs)[j]? =some u->W.cell? ⟨b,off+j,none⟩=some u:=by
    rcases hc with h|h
    .subst h;simp at hlt
    .exact h
   have hg:=aM hlt;have hc0:wr.cell? ⟨b,off+k *2,none⟩=some u0:=(hnx.cell (p:=⟨b,off+k *2,none⟩) hb).trans (hcc _ _ (aa5 (j:=0) hg (by rw[hx];rfl)));have hc1:wr.cell? ⟨b,off+k *2+1,none⟩=some u1:=(hnx.cell (p:=⟨b,off+k *2+1,none⟩) hb).trans (hcc _ _ (aa5 (j:=1) hg (by rw[hx];rfl)));have hs0:=CR (w:=wr) (c:= #[.int .i64 0, .int .i64 0]) (t:=68) (i:=0) (by decide) o0;have hs1:=CR (w:=wr) (c:= #[u0, .int .i64 0]) (t:=68) (i:=1) ai o1;have hs0':Sem.run P (store ⟨wr.heap.size,0,none⟩ u0) (wr.alloc (.cells #[.int .i64 0, .int .i64 0] 68))= .ok () (wr.alloc (.cells #[u0, .int .i64 0] 68)):=hs0;have hs1':Sem.run P (store ⟨wr.heap.size,1,none⟩ u1) (wr.alloc (.cells #[u0, .int .i64 0] 68))= .ok () (wr.alloc (.cells #[u0,u1] 68)):=hs1;have hJ2:J (xs.take k) (wr.alloc (.cells #[u0,u1] 68)):=hJ _ wr _ none hJs (World.grownBy_alloc _ _ _) (λr e=>by cases e);obtain⟨fn,tmps,assign,body,hy,hR⟩:=hY _ xs[k] _ hJ2 aH;rw[hx] at hy
   gi_wp2
   refine hR.mono ?_;rintro e W3 (⟨rfl,hJ3,hk3⟩|⟨rfl,hJ3⟩)
   .gi_wp2
    go_roundw
    case rel=>exact⟨k+1,by omega,by simp,by rw[c7,hg];exact hJ3,(hnx.alloc (fO hn₀ hnx.size) _).trans hk3⟩
    case measure=>simp[intOf];omega
   .gi_wp2
    refine bodyPost_ret (results_none rfl _ _ _) rfl ?_;exact⟨⟨_,rfl⟩, .inr ⟨_,trivial,hJ3⟩⟩
  .obtain rfl:k=xs.length:=by omega
   gi_wp2
   go_end0
   exact⟨⟨_,rfl⟩, .inl ⟨_,rfl,by simpa using hJs⟩⟩
def Coll (l:World) (q:Nat) (pre:List C2) (W:World):Prop:=
 (∃v,Boxed W q 69 v/\W.ownsRow l.heap.size 68 2 v pre.length (flat pre)/\True)/\Below l.heap.size l W
def Si (l:World) (q B:Nat) (w:l.heap.size<=B):OwnFrom B (Coll l q):=
 OwnFrom.and (Own.from (holdsRow_own l.heap.size q 69 68 2 (λs:List C2=>s.length) flat (λ_ _=>True)) _) (ownFrom_below (aR _) w)
def Elt (l b:Value) (x:C2) (w:Act) (W:World):Prop:=
 ∃q,W.heap[q]? =some (.cells x.1.toArray 68 (0,0))/\w={ tmps:= #[.slice none 0 0,l,b,undef, .slice none 0 0, .pointer (some ⟨q,0,none⟩),l, .agg x.1.toArray,undef,undef,undef,undef,undef],defers:=[] }
def elt_own (z b:Value) (B:Nat) (x:C2) (w:Act):OwnFrom B (λ(_:Unit) W=>Elt z b x w W):=λs A C row H F G=>by obtain⟨q,h,e⟩:=H;refine⟨q,(F.block q (mu.1 h).1 λe=> ?_).trans h,e⟩;obtain⟨_,o,l,D⟩:=G q e.symm;rw[h] at l;cases l;cases D
def appendA {n:Nat} (hn:3<=n) {Bs os:Nat} {a:Option Addr} {cap:Nat} {xs:List C2} {w:World} (hlen:xs.length *16<=140737488355328) (hB:Bs<w.heap.size)
  (hBs:w.cell? ⟨Bs,os,none⟩=some (.slice a xs.length cap)) (hc:xs=[]\/∃b off,a=some ⟨b,off,none⟩/\b<w.heap.size/\∀j u,(flat xs)[j]? =some u->w.cell? ⟨b,off+j,none⟩=some u):
  CallsIn Fence.wide n P 241 #[.slice none 0 0, .func (.func 200) #[] #[.pointer (some ⟨Bs,os,none⟩)]] w λe w'=>∃v,e= .returned v/\w'.ownsRow w.heap.size 68 2 v xs.length (flat xs)/\Below w.heap.size w w':=by
 have h1:1<=n:=af;refine callsIn_of_wp_marks Tryz.func241 rfl trivial ?_ rfl;simp only[Tryz.ntmps241,q8,bz,eO,Nat.reduceAdd,Nat.reduceSub,vo,vp,vq,vr,dK,gF]
 gi_wp2
 have hb1:Below w.heap.size w (w.alloc (.cells #[.slice none 0 0] 69)):=(gW _ w).alloc (aR _) _;obtain⟨i0,hi,UI,hz1,hz2⟩:=info_parts (show(P.info? 68).map (λi=>(i.zero,i.size,i.bytes))=some (some (.agg #[.int .i64 0, .int .i64 0]),2,16) by kernel_rfl);refine wpIn_rangeFunc_ownH rfl h1 (gf:=200) (lb:= #[.pointer (some ⟨Bs,os,none⟩)]) rfl trivial (enters_of Tryz.func200 (by kernel_rfl) rfl)
  (valuesA (n:=n-1) af (w:=w.alloc (.cells #[.slice none 0 0] 69)) (a:=a) (cap:=cap) (xs:=xs) (n₀:=w.heap.size) af hB ai ((hb1.cell (p:=⟨Bs,os,none⟩) hB).trans hBs) (hc.imp id λ⟨b,off,e,hb,h⟩=>⟨b,off,e,hb,λj u hj=>(hb1.cell (p:=⟨b,off+j,none⟩) hb).trans (h j u hj)⟩))
  belowK_t (belowK_b ai) (gW _ _) (λ_=>rfl)
  (Coll w w.heap.size) (λ_ _ _=>False) (Si _ _ _ ai) (λ_ _ _ _ _ hs _ _=>hs)
  ⟨⟨_,Boxed.new _ _ _,⟨rfl, .inl ⟨rfl,rfl⟩⟩,trivial⟩,hb1⟩
  (Elt (.func (.func 200) #[] #[.pointer (some ⟨Bs,os,none⟩)]) (.pointer (some ⟨w.heap.size,0,none⟩))) (elt_own _ _ _) ?assign ?body ?done ?stop
 case assign=>
  intro l pre x W K hI hK;obtain⟨u0,u1,hx,o0,o1⟩:=WZ x;have hs0:=CR (w:=W) (c:= #[.int .i64 0, .int .i64 0]) (t:=68) (i:=0) (by decide) o0;have hs1:=CR (w:=W) (c:= #[u0, .int .i64 0]) (t:=68) (i:=1) ai o1;have hs0':Sem.run P (store ⟨W.heap.size,0,none⟩ u0) (W.alloc (.cells #[.int .i64 0, .int .i64 0] 68))= .ok () (W.alloc (.cells #[u0, .int .i64 0] 68)):=hs0;have hs1':Sem.run P (store ⟨W.heap.size,1,none⟩ u1) (W.alloc (.cells #[u0, .int .i64 0] 68))= .ok () (W.alloc (.cells #[u0,u1] 68)):=hs1;rw[hx]
  gi_wp2
  refine hK _ _ ((KeepsOthers.alloc _ _).from _) ((gW _ _).alloc hI.2.size _) (Si _ _ _ hI.2.size _ W _ none hI (World.grownBy_alloc _ _ _) (λr e=>by cases e)) ⟨W.heap.size,by rw[hx];exact World.alloc_heap_new _ _,by rw[hx]⟩
 case body=>
  rintro l pre x a' W hl _ ⟨⟨v,hv,hrow,_⟩,hB⟩ ⟨q,hq,rfl⟩ hlen;obtain⟨u0,u1,hx,o0,o1⟩:=WZ x;rw[hx] at hq⊢;have c0:=hv.cell;have cq0:W.cell? ⟨q,0,none⟩=some u0:=by simp[World.cell?,hq]
  have cq1:W.cell? ⟨q,1,none⟩=some u1:=by simp[World.cell?,hq]
  have RC:pre.length+1<=xs.length:=hlen
  gi_wp2_with (first
   |(gi_at_builtin;refine wpListIn_append_own _ rfl _ _ 69 rfl w.heap.size 68 i0 (.agg #[.int .i64 0, .int .i64 0]) 2 16 Tryz.underlying69 hi UI hz1 hz2 rfl (by decide) _ _ _ rfl (hrow.alloc _) ⟨W.heap.size,0,none⟩ 1 1 [u0,u1] rfl rfl two_new (by simp[o0,o1]) (by unfold maxLen;omega) af (by have:=hB.size;simp;omega) ?_;intro v' w3 hown' hg3 hnil3
     obtain⟨g,cap',rfl⟩:=ownsRow_succ hown';obtain⟨b1,b2,b3,b4,b5⟩:=Boxed.appended hv (by decide) hrow hB.size (aR _) hown' hg3;have c3:=b1.cell
     have f3:=b1.frozen)
   |gi_in)
  exact⟨b4.from _,b5,⟨_,b2,by simpa[flat,hx] using b3,trivial⟩,hB.trans b5⟩
 case done=>
  rintro D ys W hD rfl ⟨⟨v,h1,h2,_⟩,h3⟩ hK;have c0:=h1.cell
  gi_wp2
  refine⟨ai, .inl ⟨_,_,rfl,run_takeDeferred hK,?_⟩⟩;exact⟨_,results_tmp rfl _ _ _,_,rfl,ownsRow_putObj h2 _ hK rfl,h3.trans (belowK_b (w:=w) (aR _) W D _ _ (by simp at hD;omega) hK rfl rfl)⟩
 case stop=>rintro D c pre W _ _ h _;exact h.elim
def abj {n:Nat} (hn:4<=n) {Bs os:Nat} {a:Option Addr} {cap:Nat} {xs:List C2} {w:World} (hlen:xs.length *16<=140737488355328) (hB:Bs<w.heap.size)
  (hBs:w.cell? ⟨Bs,os,none⟩=some (.slice a xs.length cap)) (hc:xs=[]\/∃b off,a=some ⟨b,off,none⟩/\b<w.heap.size/\∀j u,(flat xs)[j]? =some u->w.cell? ⟨b,off+j,none⟩=some u):
  CallsIn Fence.wide n P 198 #[.func (.func 200) #[] #[.pointer (some ⟨Bs,os,none⟩)]] w λe w'=>∃v,e= .returned v/\w'.ownsRow w.heap.size 68 2 v xs.length (flat xs)/\Below w.heap.size w w':=by
 have h1:1<=n:=af;have hf:Fence.wide.fn 241:=trivial;refine zV Tryz.func198 rfl trivial ?_ rfl;simp only[Tryz.ntmps198,q8,bz,eO,Nat.reduceAdd,Nat.reduceSub,vo,vp,vq,vr,dK,gF]
 gi_wp2_with (gi_at_call 241;refine(appendA (n:=n-1) af hlen hB hBs hc).mono ?_;rintro e w' ⟨v,rfl,hrow,hb⟩)
 go_ret
 exact⟨v,rfl,hrow,hb⟩
end Go.Proofs.YthphfjcnkinkpaaGreatDoor.cl
set_option maxRecDepth 100000
set_option maxHeartbeats 2000000
namespace Go.Proofs.YthphfjcnkinkpaaGreatDoor.cl
open Go Go.AM Go.RowKit
attribute [local go_sem] Oper.semAt_some
def Al.c2 {S:SK} {l:Mu} (x:Al S l):C2:=⟨x.cells,x.len,x.one⟩
def Xx {S:SK} {q:Mu} (l:List (Al S q)):flat (l.map Al.c2)=(l.map Al.cells).flatten:=by simp[flat,Al.c2,mX]
def sortedA {μ:Mu} {loc:Nat->Value} {w:World} {xs:List (List AV)} {l:List (Int×Int)} {u:Value} (oD:Mm μ w) (hl:BD xs=some l) (hap:BC l=true) (hlen:l.length<=1073741824) (hu:rep μ (.fn 200 [.ref [.dD 2 xs]]) u):
  Calls P 145 #[u, .func (.func 147) #[] #[]] w λe w'=>∃v μ' loc',e= .returned v/\fJ False μ loc [] (.gU [.gU [.self 68, .dD 2 ((tO We l).map Sv)]]) [] w v μ' loc' w':=by
 have hxs:=M5 hl;subst hxs;rw[rep.eq_def] at hu;dsimp only at hu;obtain⟨vs,rfl,p,vs',rfl,hp,hvs'⟩:=hu
 have:vs'=[]:=hvs'
 subst this;rw[rep.eq_def] at hp;dsimp only at hp;obtain⟨b,off,cs,rfl,⟨sl,cs',rfl,hsl,hcs'⟩,h1c,hc⟩:=hp
 have:cs'=[]:=hcs'
 subst this;have hsl0:=hc 0 sl rfl;rw[lV] at hsl0;rw[rep.eq_def] at hsl;dsimp only at hsl;obtain⟨A,c,rfl,hc1,VB,hA⟩:=hsl;have hcell:=za (oD _ _ _ hsl0) rfl;have hlt:=sK (oD _ _ _ hsl0);obtain⟨als,ha1,hcc⟩:∃als:List (Al SKa μ),als.map (λx=>x.1.1)=l/\(als.map Al.c2=[]\/∃b off,A=some ⟨b,off,none⟩/\b<w.heap.size/\∀j u,(flat (als.map Al.c2))[j]? =some u->w.cell? ⟨b,off+j,none⟩=some u):=by
  rcases hA with h0|⟨b',off',ea,hrow⟩
  .have:l=[]:=by simpa using h0
   subst this;exact⟨[],rfl, .inl rfl⟩
  .obtain⟨us,k1,k2⟩:=ux hrow;have k3:=kI k1;obtain⟨als,e1,e2⟩:=aaW (S:=SKa) (l:=l) (λp _=>trivial) k1;refine⟨als,e1,?_⟩;cases hl0:als with
   |nil=>exact .inl rfl
   |cons x0 als0=>
    rw[<-hl0];refine .inr ⟨b',off',ea,?_,λj u hj=> ?_⟩
    .have hx:=x0.len;obtain⟨u0,hu0⟩:∃u0,us[0]? =some u0:=by
      rw[e2,hl0];cases hx':x0.cells with
      |nil=>rw[hx'] at hx;simp at hx
      |cons a t=>exact⟨a,by simp[hx']⟩
     exact sK (oD _ _ _ (k2 0 u0 hu0))
    .rw[Xx,<-e2] at hj;exact za (oD _ _ _ (k2 j u hj)) (k3 u (aV hj))
 have hal:(als.map Al.c2).length=l.length:=by rw[<-ha1];simp
 have hll:(l.map Sv).length=(als.map Al.c2).length:=by rw[hal];simp
 rw[hll] at hcell;refine(uO (n:=9)).1 ?_;have hf1:Fence.wide.fn 198:=trivial;have hf2:Fence.wide.fn 199:=trivial;have hn:1<=9:=by decide
 refine zV Tryz.func145 rfl trivial ?_ rfl;simp only[Tryz.ntmps145,q8,bz,eO,Nat.reduceAdd,Nat.reduceSub,vo,vp,vq,vr,dK,gF]
 gi_wp2_with (gi_at_call 198;refine(abj (n:=8) af (xs:=als.map Al.c2) af hlt hcell hcc).mono ?_;rintro e w1 ⟨v,rfl,hrow,hb⟩)
 have hpub1:Mm μ w1:=λb j x hx=>by have h:=oD b j x hx;rw[jf (hb.block b (sK h)) j];exact h
 have hbase:∀g,mE v g->w.heap.size<=g:=λg hg=>by
  rcases hrow.2 with⟨e,_⟩|⟨g',cap,cur,e,h2,_⟩
  .rw[e] at hg;rcases hg with hg|⟨us,hg,_⟩<;>cases hg
  .rw[e] at hg;rcases hg with hg|⟨us,hg,_⟩
   .cases hg;exact h2
   .cases hg
 have I4:∀g,mE v g->∀j,μ g j=none:=λg hg j=>by cases hm:μ g j with
  |none=>rfl
  |some x=>have:=sK (oD _ _ _ hm);have:=hbase g hg;omega
 have hrc:cV μ 2 (l.map Sv) (flat (als.map Al.c2)):=by rw[Xx,<-ha1,eG];exact adU als
 have sV:nU w1.heap.size (gY False (λ_=>v) [10000]) μ (λ_=>v) w1 10000 (.row 68 2 (l.map Sv)):=by
  refine⟨_,?_,hrc,λg hg=>⟨.inr (.inr ⟨v,by simp[gY],hg⟩),I4 g hg⟩⟩;rw[hll];refine⟨hrow.1,?_⟩;rcases hrow.2 with h|⟨g,cap,cur,h1,_,h2⟩
  .exact .inl h
  .exact .inr ⟨g,cap,cur,h1,cS _,h2⟩
 have hs:=sort47 (S:=SKa) (l:=l) Tryz.laysF6a Tryz.isAgg68 Tryz.sizeOf68 hlen (by rw[aaU];exact Y7 hap) (λp _=>trivial) hpub1 sV;rw[aaU] at hs;refine((uO (n:=8)).2 hs).mono ?_;rintro e w2 ⟨v2,μ2,loc2,rfl,hP⟩
 gi_wp2
 go_ret
 have S0:=hP.fix 10000 ai (by decide) (by decide);obtain⟨vs2,Fe,ZJ,hbl2⟩:=hP.obs 10000 _ rfl;rw[S0] at Fe hbl2;have hin:∀g,cu v=some g->mE v g:=λg hg=> .inl hg
 have hk:∀b,b<w.heap.size->w2.heap[b]? =w.heap[b]? :=λb hlt=>
  (hP.keep b (fG hlt hb.size) (by
   rintro⟨id,v',h1,h2⟩
   have:v'=v:=by
    simp only[gY] at h1;split at h1
    .exact(fe h1).symm
    .cases h1
   rw[this] at h2
   have:=hbase b h2;omega)).trans (hb.block b hlt)
 refine⟨_,μ2,loc,rfl,?_⟩
 exact {
  ext:=⟨hP.ext.1,λb j x hx=>by
   rcases hP.ext.2 b j x hx with h|h|⟨id,_,h1,h2,hx,_⟩
   .exact .inl h
   .exact .inr (.inl (fO hb.size h))
   .simp only[gY] at hx;split at hx
    .rename_i hm;simp at hm;omega
    .cases hx⟩
  yz:=hP.yz
  res:= .inr (.inr (.inr ⟨68,2,_,vs2,rfl,Fe,ZJ,λg hg=>⟨.inl (hbase g (hin g hg)),(hbl2 g (hin g hg)).2,λid o h=>by cases h⟩⟩))
  obs:=λid o h=>by cases h
  apart:=λi j oi oj h=>by cases h
  keep:=λb hlt _=>hk b hlt
  fix:=λid h=>by cases h
  os:=hP.os.trans hb.os
  tape:=hP.tape.trans hb.tape
  output:=hP.output.trans hb.output
  grown:=fO hb.size hP.grown
  drawn:=λh=>h.elim }
end Go.Proofs.YthphfjcnkinkpaaGreatDoor.cl
set_option maxRecDepth 100000
set_option maxHeartbeats 2000000
namespace Go.Proofs.YthphfjcnkinkpaaGreatDoor.cl
open Go Go.AM Go.RowKit
def cmp119 (a b:ByteArray) (w:World):Calls P 182 #[.string a, .string b] w λe w'=>e= .returned (.int .i64 (Lib.compareBytes a.data.toList b.data.toList))/\w'=w:=by
 go_enter Tryz.func182,Tryz.ntmps182
 go_wp2
 rw[run_callFunc_extern Tryz.func227 (by kernel_rfl) (by kernel_rfl) (by kernel_rfl) (e:=Extern.BytealgCompare.compare) (by kernel_rfl),Lib.run_compareString];simp only[Result.andThen];rw[Oper.upon_value]
 go_wp2
 go_ret
 exact⟨rfl,rfl⟩
def cmp65 (a b:ByteArray) (w:World):Calls P 119 #[.string a, .string b] w λe w'=>e= .returned (.int .i64 (Lib.compareBytes a.data.toList b.data.toList))/\w'=w:=by
 go_enter Tryz.func119,Tryz.ntmps119
 go_wp2_with (go_at_call 182;refine(cmp119 _ _ _).mono ?_;rintro e w' ⟨rfl,rfl⟩)
 go_ret
 exact⟨rfl,rfl⟩
def J9:∀a b:List UInt8,Lib.compareBytes a b=Mt a b
 |[],[]=>rfl
 |[],_::_=>rfl
 |a::x,[]=>by have e:(a::x==([]:List UInt8))=false:=rfl;unfold Mt;rw[e];rfl
 |a::x,b::y=>by
  have z:=J9 x y;unfold Lib.compareBytes;unfold Mt at z⊢;unfold Op.bytesLess;by_cases l:a<b
  .simp[l]
  .by_cases q:b<a
   .have w:a≠b:=λe=>l (e▸q)
    have e1:(a==b)=false:=by simpa using w
    simp[l,q,e1]
   .have B:a=b:=UInt8.le_antisymm (UInt8.not_lt.1 q) (UInt8.not_lt.1 l);subst B;rw[az l,az l,z];simp[l]
end Go.Proofs.YthphfjcnkinkpaaGreatDoor.cl
set_option maxRecDepth 1000000
set_option maxHeartbeats 4000000
namespace Go.Proofs.YthphfjcnkinkpaaGreatDoor.cl
open Go Go.AM Go.RowKit
def FJ (cur:Array Value):Nat->List Value->Array Value
 |_,[]=>cur
 |o,v::r=>FJ (cur.setIfInBounds o v) (o+1) r
def yZ:∀(q:List Value) (o:Nat) (l:Array Value),(FJ l o q).size=l.size
 |[],_,_=>rfl
 |v::r,o,l=>by rw[FJ,yZ r];simp
def Cf:∀(q:List Value) (o:Nat) (l:Array Value),o+q.length<=l.size->(FJ l o q).toList=l.toList.take o++q++l.toList.drop (o+q.length)
 |[],o,l,_=>by simp[FJ]
 |v::r,o,l,h=>by rw[bz] at h;rw[FJ,Cf r (o+1) _ aH,Array.toList_setIfInBounds,c7,mZ aH,Hr (aR _),Hs af];simp[gE,jS,Nat.add_left_comm]
theorem AD {g:Nat} {e:TypeId}:∀(l:List Value) (o:Nat) {w:World} {cur:Array Value},w.heap[g]? =some (.cells cur e (0,0))->(w.setCells g o l).heap[g]? =some (.cells (FJ cur o l) e (0,0))
 |[],_,_,_,h=>h
 |v::r,o,w,cur,h=>by refine AD r (o+1) (w:=w.setCell ⟨g,o,none⟩ v) (cur:=cur.setIfInBounds o v) ?_;show(w.heap.modify g _)[g]? =_;rw[zR,aB rfl,h];rfl
def yy (g:Nat):∀(l:List Value) (o:Nat) (w:World),(w.setCells g o l).tape=w.tape
 |[],_,_=>rfl
 |v::r,o,w=>yy g r (o+1) _
def tG (g:Nat):∀(l:List Value) (o:Nat) (w:World),(w.setCells g o l).heap.size=w.heap.size
 |[],_,_=>rfl
 |v::r,o,w=>(tG g r (o+1) _).trans (by show(w.heap.modify g _).size=_;simp)
def Sh (w:World) (t e ty:TypeId) (z:Value) (G:P.underlying t=some (.slice e)) (H:∀w,(zeroValue e).run P w= .ok z w) (b o n c:Nat) (I:0<n) (Z:List Value) (B:(Builtin.zeroCells z.cells n).toList=Z) (q:∀v∈Z,v.oneCell'=true)
  (D:∀j,j<Z.length->(w.cell? ⟨b,o+j,none⟩).isSome=true) (F:∀j,j<Z.length->w.frozen? ⟨b,o+j,none⟩=false):
  (Builtin.clear_ #[t] ty #[.slice (some ⟨b,o,none⟩) n c]).run P w= .ok (.tuple #[]) (w.setCells b o Z):=by
 have l:=run_storeCells_cells (P:=P) b o Z 0 w (by simpa using D) (by simpa using F) q;simp only[lV] at l;obtain⟨m,rfl⟩:∃m,n=m+1:=⟨n-1,af⟩
 simp[Builtin.clear_,bR G,H,B,l]
def zC:List Value:=[.string ⟨#[]⟩, .int .i64 0, .string ⟨#[]⟩, .slice none 0 0, .slice none 0 0, .slice none 0 0]
def RE:Nat->List Value
 |0=>[]
 |n+1=>zC++RE n
def Rz:∀n,(RE n).length=n *6
 |0=>rfl
 |n+1=>by rw[RE,bQ,Rz n,mY,jS];rfl
def RA:∀n,∀v∈RE n,v.oneCell'=true
 |0,v,h=>by cases h
 |n+1,v,h=>by
  rcases bu.1 h with h|h
  .simp only[zC,aN,nC,pQ] at h;rcases h with rfl|rfl|rfl|rfl|rfl|rfl<;>rfl
  .exact RA n v h
def aeH (n:Nat):(Builtin.zeroCells zC.toArray n).toList=RE n:=by
 have key:∀n,(List.range (n *6)).map (λi=>zC.toArray[i % 6]!)=RE n:=by intro n;induction n with
  |zero=>rfl
  |succ n l=>
   rw[mY,jS,wY,cE,eG,RE,<-l];congr 1;refine gP λi _=> ?_
   show zC.toArray[(6+i) % 6]! =_;rw[Nat.add_mod_left]
 rw[<-key n];unfold Builtin.zeroCells;simp[zC]
theorem Y0 {l:Mu}:∀n,cV l 6 (List.replicate n aeI) (RE n)
 |0=>rfl
 |n+1=>by
  rw[oR];have nl:∀k,rep l (.dD k []) (.slice none 0 0):=λk=>by rw[rep];exact⟨none,0,rfl,aR _,cS _, .inl rfl⟩
  exact⟨zC,RE n,rfl,⟨⟨_,_,rfl,by rw[rep],_,_,rfl,by rw[rep],_,_,rfl,by rw[rep],_,_,rfl,nl _,_,_,rfl,nl _,_,_,rfl,nl _,rfl⟩,λu q=>RA 1 u (by simpa[RE] using q)⟩,rfl,Y0 n⟩
def kN {w:Mu} {l:Nat}:∀(i:Nat) {xs:List (List AV)} {q:List Value},cV w l xs q->cV w l (xs.take i) (q.take (i *l))/\cV w l (xs.drop i) (q.drop (i *l))
 |0,xs,q,h=>by rw[By];exact⟨rfl,h⟩
 |i+1,[],q,h=>by
  have:q=[]:=h
  subst this;rw[List.take_nil,List.take_nil,List.drop_nil,List.drop_nil];exact⟨rfl,rfl⟩
 |i+1,x::xs,q,h=>by
  obtain⟨B,ws,rfl,D,z,F⟩:=h;obtain⟨a,b⟩:=kN i F;have e:(i+1) *l=B.length+i *l:=by rw[mY,z,jS]
  rw[Ho,Hl,e,Hv,Bw];exact⟨⟨B,ws.take (i *l),rfl,D,z,a⟩,b⟩
def Ay {z:Mu} {w:Nat}:∀{xs q:List (List AV)} {l ws:List Value},cV z w xs l->cV z w q ws->cV z w (xs++q) (l++ws)
 |[],q,l,ws,h,k=>by
  have:l=[]:=h
  subst this;exact k
 |x::xs,q,l,ws,h,k=>by obtain⟨H,G,rfl,B,D,F⟩:=h;exact⟨H,G++ws,by rw[ee],B,D,Ay F k⟩
def del72 {μ:Mu} {loc:Nat->Value} {w:World} {xs:List (List AV)} {i j:Nat} (hij:i<j) (hj:j<=xs.length) (oD:Mm μ w) (sV:nU w.heap.size (gY False loc [10000]) μ loc w 10000 (.row 73 6 xs)):
  Calls P 126 #[loc 10000, .int .i64 i, .int .i64 j] w λe w'=>∃v μ' loc',e= .returned v/\fJ False μ loc [10000] (.self ((xs.length-(j-i):Nat))) [(10000, .row 73 6 (xs.take i++xs.drop j++List.replicate (j-i) aeI))] w v μ' loc' w':=by
 obtain⟨vs,hown,hrc,hbl⟩:=sV;have hvl:=cZ hrc;have hv1:=kI hrc;rcases hown.2 with⟨_,h0⟩|⟨g,cap,cur,e1,_,hg,hcap,hmax,hsz,Nw⟩
 .omega
 .obtain⟨hownB,I4⟩:=hbl g (by rw[e1];exact iJ.2 rfl);rw[e1];obtain⟨i0,hi0,UI,hz1,hz2⟩:=info_parts (show(P.info? 73).map (λi=>(i.zero,i.size,i.bytes))=some (some (.agg zC.toArray),6,112) by kernel_rfl);have hcz:cur.size=cap *6:=hsz;have SY:∀k,k<xs.length *6->cur.toList[k]? =vs[k]? :=λk hk=>by
   rw[<-Nw,oQ,aB hk]
  have hcell:∀k u,vs[k]? =some u->w.drew.cell? ⟨g,k,none⟩=some u:=λk u hk=>by have hkl:=(bP.1 hk).1;have:=(SY k af).trans hk;rw[Array.getElem?_toList] at this;show w.cell? _=_;unfold World.cell?;simp[hg,this]
  have hsome:∀k,k<cap *6->(w.drew.cell? ⟨g,k,none⟩).isSome=true:=λk hk=>by show(w.cell? _).isSome=true;unfold World.cell?;simp[hg,hcz,hk]
  have hfroz:∀k,w.drew.frozen? ⟨g,k,none⟩=false:=λk=>by show w.frozen? _=false;unfold World.frozen?;simp[hg]
  obtain⟨news,hnews⟩:∃news,news=vs.drop (j *6):=⟨_,rfl⟩
  have hlen:news.length=(xs.length-j) *6:=by rw[hnews,lT,hvl,Nat.sub_mul]
  obtain⟨A,hA,hsrc⟩:∃A:Addr,(if cap=j then some (⟨g,0,none⟩:Addr) else some ⟨g,j *6,none⟩)=some A/\Hid (∀t u,news[t]? =some u->w.drew.cell? (A.add t)=some u):=by
   by_cases h:cap=j
   .refine⟨⟨g,0,none⟩,by simp[h],λt u hu=> ?_⟩;have h0:news.length=0:=by rw[hlen];omega
    rw[lQ.1 h0] at hu;simp at hu
   .refine⟨⟨g,j *6,none⟩,by simp[h],λt u hu=> ?_⟩;rw[hnews,wW] at hu;rw[zU];exact hcell _ _ hu
  have s1:Hid (news.length=(xs.length-j) *6):=hlen;have s2:Hid (∀u∈news,u.oneCell'=true):=λu hu=>hv1 u (iY (by rw[<-hnews];exact hu))
  have s3:Hid (∀t,t<news.length->(w.drew.cell? ⟨g,0+i *6+t,none⟩).isSome=true/\w.drew.frozen? ⟨g,0+i *6+t,none⟩=false):=λt ht=>by rw[hlen] at ht;exact⟨hsome _ af,hfroz _⟩
  obtain⟨W1,hW1⟩:∃W1,W1=w.drew.setCells g (0+i *6) news:=⟨_,rfl⟩
  have hg1:W1.heap[g]? =some (.cells (FJ cur (0+i *6) news) 73 (0,0)):=by rw[hW1];exact AD _ _ hg
  have ab3:∀k,k<cap *6->(W1.cell? ⟨g,k,none⟩).isSome=true:=λk hk=>by unfold World.cell?;simp[hg1,yZ,hcz,hk]
  have abT:∀k,W1.frozen? ⟨g,k,none⟩=false:=λk=>by unfold World.frozen?;simp[hg1]
  have hcl:∀ty,(Builtin.clear_ #[23] ty #[.slice (some ⟨g,(i+(xs.length-j)) *6,none⟩) (xs.length-(i+(xs.length-j))) (cap-(i+(xs.length-j)))]).run P W1= .ok (.tuple #[]) (W1.setCells g ((i+(xs.length-j)) *6) (RE (xs.length-(i+(xs.length-j))))):=λty=>Sh W1 23 73 ty (.agg zC.toArray) Tryz.underlying23 Tryz.zeroValue73 g _ _ _ af _ (aeH _) (RA _) (λt ht=>by rw[Rz] at ht;exact ab3 _ af) (λt ht=>abT _)
  have X:Aside (W1.heap[g]? =some (.cells (FJ cur (0+i *6) news) 73 (0,0))):=hg1;have hW:Hid (W1=w.drew.setCells g (0+i *6) news):=hW1;have hic:i<=cap:=af;have hjc:j<=cap:=af;generalize hn:xs.length=n at *;have fin:Aside (∀W2,W2=W1.setCells g ((i+(n-j)) *6) (RE (n-(i+(n-j))))->∃μ' loc',fJ False μ loc [10000] (.self ((n-(j-i):Nat))) [(10000, .row 73 6 (xs.take i++xs.drop j++List.replicate (j-i) aeI))] w (.slice (some ⟨g,0,none⟩) (i+(n-j)) cap) μ' loc' W2):=by
   rintro W2 rfl;have ez:n-(i+(n-j))=j-i:=af;have ek:(i+(n-j)) *6=i *6+news.length:=by rw[hlen,jQ]
   have hzl:=Rz (j-i);have hs1:(FJ cur (0+i *6) news).size=cap *6:=(yZ _ _ _).trans hcz;have t1:=Cf news (0+i *6) cur (by rw[hlen];omega);have t2:=Cf (RE (j-i)) ((i+(n-j)) *6) (FJ cur (0+i *6) news) (by rw[hs1,hzl];omega);have hl0:(cur.toList.take (i *6)).length=i *6:=by rw[fh,Bx,hcz];omega
   have hvt:vs.take (i *6)=cur.toList.take (i *6):=by rw[<-Nw,List.take_take,xe af]
   have t3:(FJ cur (0+i *6) news).toList.take ((i+(n-j)) *6)=vs.take (i *6)++news:=by rw[t1,eF,ek,hvt];exact zO (by rw[bQ,hl0])
   have t4:(FJ (FJ cur (0+i *6) news) ((i+(n-j)) *6) (RE (j-i))).toList.take (n *6)=vs.take (i *6)++news++RE (j-i):=by
    have hl:(vs.take (i *6)++news++RE (j-i)).length=n *6:=by rw[bQ,bQ,hvt,hl0,hlen,hzl];omega
    rw[t2,t3];exact zO hl
   rw[ez];have hlx:(xs.take i++xs.drop j++List.replicate (j-i) aeI).length=n:=aH;have hg2:=AD (RE (j-i)) ((i+(n-j)) *6) hg1;obtain⟨r1,_⟩:=kN i hrc;obtain⟨_,r2⟩:=kN j hrc;rw[<-hnews] at r2;refine⟨μ,loc,Uf (w:=w) (cur:=cur) (n:=n) (us:=vs.take (i *6)++news++RE (j-i)) oD e1 hcap hmax hsz hownB I4 hg2 (by rw[yZ,hs1,hcz]) t4 (by rw[<-t4,fh,Bx,yZ,hs1];omega) (λb hb hne=> ?_) ?_ ?_ ?_ ?_ hlx (Ay (Ay r1 r2) (Y0 _)) (.inr ⟨_,_,_,_,rfl,e1,by omega,by congr 1;omega⟩)⟩
   .rw[hW1] at *;rw[World.heap_setCells_other _ _ _ _ (by rw[tG];exact hb) hne,World.heap_setCells_other _ _ _ _ (by exact hb) hne];rfl
   .rw[World.os_setCells,hW1,World.os_setCells];rfl
   .rw[yy,hW1,yy];rfl
   .rw[World.output_setCells,hW1,World.output_setCells];rfl
   .rw[tG,hW1,tG];exact aR _
  clear hW1 hg1 hsome hfroz ab3 abT hcell SY hnews hlen hown hrc hbl Nw hsz hcz hg hv1 hvl oD
  go_enter Tryz.func126,Tryz.ntmps126
  go_wp2_with fail
  go_region_law (refine step_append_room rfl (.tmp 22) (.tmp 25) 23 rfl 73 i0 6 Tryz.underlying23 hi0 hz1 g 0 i cap (by simp[Act.eval,Act.put]) A (n-j) (cap-j) news (by simp[Act.eval,Act.put]) s1.out hsrc.out s2.out af s3.out ?_;rw[<-hW.out])
  go_wp2
  go_ret
  obtain⟨μ',loc',h⟩:=fin.out _ rfl;exact⟨_,μ',loc',rfl,h⟩
