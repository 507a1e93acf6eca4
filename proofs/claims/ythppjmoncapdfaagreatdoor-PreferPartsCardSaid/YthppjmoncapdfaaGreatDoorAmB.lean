/- path.First, taken as a primitive, is sound. -/
import Derived.Test.YthppjmoncapdfaaGreatDoorClCz
import Derived.Test.YthppjmoncapdfaaGreatDoorClQd
import Derived.Test.YthppjmoncapdfaaGreatDoorAmFin
import Derived.Maps.RangeRun
set_option linter.all false
set_option maxRecDepth 100000
set_option maxHeartbeats 2000000
open List (replicate)
namespace Go.Proofs.YthppjmoncapdfaaGreatDoor.cl
open Go Go.AM Go.RowKit
def LP (r:Loop) (l B G D N:Nat) (xs:List AV) (μ:Mu) (w:World) (z:List Value):Prop:=
 z=[.pointer (some ⟨l,0,none⟩), .pointer (some ⟨B,0,none⟩), .slice (some ⟨G,0,none⟩) N N, .pointer (some ⟨D,0,none⟩)]/\w.heap[l]? =some (.loop r)/\w.heap[B]? =some (.cells #[.slice (some ⟨G,0,none⟩) N N] 58 (0,0))/\
 w.heap[D]? =some (.deferred (some []))/\∃q:List Value,w.heap[G]? =some (.cells q.toArray 60 (0,0))/\q.length=N/\gV μ xs q
def QL (r:Loop) (l B G D N:Nat):Qp where
 p:=False
 lp:=LP r l B G D N
 mono:=λh ⟨e,z,F,H,O,I,K,Q,R⟩=>⟨e,z,F,H,O,I,K,dK h _ _ Q,R⟩
 keep:=λ{xs μ w w' S} q ⟨e,z,F,H,O,I,K⟩=>by subst e;exact⟨rfl,(q l ⟨.pointer (some ⟨l,0,none⟩),by simp,rfl⟩).trans z,(q B ⟨.pointer (some ⟨B,0,none⟩),by simp,rfl⟩).trans F,(q D ⟨.pointer (some ⟨D,0,none⟩),by simp,rfl⟩).trans H,O,(q G ⟨.slice (some ⟨G,0,none⟩) N N,by simp,rfl⟩).trans I,K⟩
def Tk (r:Loop) (l G m:Nat) (q:Value) (W:World):World:=((W.putObj l (.loop { r with state:= .busy })).setCell ⟨G,m,none⟩ q).putObj l (.loop r)
def Ng {r:Loop} {l G m:Nat} {B:Value} {W:World} {b:Nat} (q:b≠l) (z:b≠G):(Tk r l G m B W).heap[b]? =W.heap[b]? :=
 (World.putObj_heap_other q).trans ((Below.heap_setCell _ _ _ b z).trans (World.putObj_heap_other q))
def IE {r:Loop} {l G m:Nat} {q:Value} {W:World}:(Tk r l G m q W).heap.size=W.heap.size:=by simp[Tk,World.putObj,World.setCell]
def WQ {r:Loop} {l G m:Nat} {q:Value} {W:World} (h:l<W.heap.size):(Tk r l G m q W).heap[l]? =some (.loop r):=
 World.putObj_heap_same (by simp[World.putObj,World.setCell];exact h)
def WO {r:Loop} {l G m:Nat} {B:Value} {W:World} {z:List Value} (F:W.heap[G]? =some (.cells z.toArray 60 (0,0))) (q:G≠l):(Tk r l G m B W).heap[G]? =some (.cells (z.set m B).toArray 60 (0,0)):=by refine(World.putObj_heap_other q).trans ?_;have D:(W.putObj l (.loop { r with state:= .busy })).heap[G]? =some (.cells z.toArray 60 (0,0)):=(World.putObj_heap_other q).trans F;show(Array.modify _ G _)[G]? =_;rw[tB,ak rfl,D];simp
def y_ok {r:Loop} {l B G D N:Nat} (hps:r.params.size=2) (hBG:B≠G) (hDG:D≠G) (Nv:B≠l) (hDl:D≠l) (Vh:G≠l)
  (O:∀F,Wd F->∀(m:Nat) (pv:Value) (W:World) (vs:List Value),W.heap[l]? =some (.loop r)->W.heap[B]? =some (.cells #[.slice (some ⟨G,0,none⟩) N N] 58 (0,0))->W.heap[G]? =some (.cells vs.toArray 60 (0,0))->vs.length=N->m<N->(∃a n c,pv= .slice a n c)->
   RoundIn F (0-1) P l r.fn ((r.params.zip #[.int .i64 m,pv]).foldl (λt (x,v)=>t.setIfInBounds x v) r.tmps) r.assign r.body W λe W'=>e= .returned (.bool true)/\W'=Tk r l G m pv W):
  dX (QL r l B G D N) (λ_ _=>none) P cy.dm:=by
 intro g args Kn r' u5 z w μ loc us hB R OP hap wD;unfold cy.dm at z;split at z
 .rename_i xs;obtain⟨hb,z⟩:=aZ z;simp only[aB,aQ] at z;obtain⟨rfl,rfl⟩:=z;obtain⟨u0,us1,rfl,OS,K⟩:=wD
  have:us1=[]:=K
  subst this;exact .inl ⟨by decide,λw2=>jH Tryz.func57 (by decide) (by rfl) _ w2,Lh (q:=QL r l B G D N) (λh=>h) R OS (cI hb)⟩
 .rename_i n p out;split at z
  .rename_i m;obtain⟨hb,z⟩:=aZ z;simp only[aB,aQ] at z;obtain⟨rfl,rfl⟩:=z;have hm:m<out.length:=cI hb;obtain⟨u0,us1,rfl,OS,K⟩:=wD;obtain⟨u1,us2,rfl,hu1,Ux⟩:=K;obtain⟨u2,us3,rfl,OT,hus3⟩:=Ux
   have:us3=[]:=hus3
   subst this;obtain⟨us',H,Q,hlp⟩:=OP 10000 _ rfl;obtain⟨rfl,h1,h2,h3,vs,h4,h5,h6,h7⟩:=hlp;have S:rep μ (.int .i64 (Int.ofNat m)) u0:=OS;rw[rep] at S;subst S;have I:rep μ (.c4 1 p) u1:=hu1;have z1:∃a n c,u1= .slice a n c:=by rw[rep.eq_def] at I;obtain⟨A,c,e,_⟩:=I;exact⟨A,_,c,e⟩
   have U:u2=dO (loc 10000):=OT;rw[H] at U;have OT:u2= .pointer (some ⟨l,0,none⟩):=U;subst OT;have hlen:vs.length=out.length:=kB h6;have V:∀g:Nat,g=l\/g=B\/g=G\/g=D->gE (loc 10000) g:=λg hg=>by
    rw[H];refine .inr ⟨_,rfl,?_⟩;rcases hg with rfl|rfl|rfl|rfl
    .exact⟨.pointer (some ⟨g,0,none⟩),by simp,rfl⟩
    .exact⟨.pointer (some ⟨g,0,none⟩),by simp,rfl⟩
    .exact⟨.slice (some ⟨g,0,none⟩) N N,by simp,rfl⟩
    .exact⟨.pointer (some ⟨g,0,none⟩),by simp,rfl⟩
   have uq:=λg hg=>(Q g (V g hg)).2.2
   refine .inr ⟨aJ _,⟨out,rfl⟩,[.int .i64 (Int.ofNat m),u1],_,rfl,?_⟩;refine⟨l,r.fn,_,r.assign,r.body,rfl,run_yield h1 (by simp[hps]),λF hF=>(O F hF m u1 w vs h1 h2 h4 h5 af z1).mono ?_⟩;rintro e W' ⟨rfl,rfl⟩;refine⟨_,μ,loc,rfl,?_⟩;have q:∀b,b≠l->b≠G->(Tk r l G m u1 w).heap[b]? =w.heap[b]? :=λb=>Ng
   exact {
    ext:=⟨Mu.le.refl _,λ_ _ _ h=> .inl h⟩
    qk:=λb j x hx=>by
     have ML:b≠l:=λe=>by rw[e,uq l (.inl rfl) j] at hx;cases hx
     have Gn:b≠G:=λe=>by rw[e,uq G (.inr (.inr (.inl rfl))) j] at hx;cases hx
     rw[dW (q b ML Gn) j];exact R b j x hx
    res:= .inl (by rw[rep])
    obs:=λid o h=>by
     have hid:=jk h;subst hid;have ho:Ob.lp (out.set m (.c4 1 p))=o:=by simpa[find] using h
     subst ho;refine⟨_,H,λg hg=> ?_,rfl,WQ (cO.1 h1).1,(q B Nv hBG).trans h2,(q D hDl hDG).trans h3,vs.set m u1,WO h4 Vh,by simpa using h5,xy h6 I,λu hu=> ?_⟩
     .obtain⟨k1,k2,k3⟩:=Q g hg;exact⟨k1,by rw[IE];exact k2,k3⟩
     .rcases kL hu with h|rfl
      .exact h7 u h
      .obtain⟨a,n,c,rfl⟩:=z1;rfl
    apart:=λi j oi oj hi hj hij=>absurd ((jk hi).trans (jk hj).symm) hij
    keep:=λb _ hl=>q b (λe=>hl ⟨10000,loc 10000,by simp[gJ],V b (.inl e)⟩) (λe=>hl ⟨10000,loc 10000,by simp[gJ],V b (.inr (.inr (.inl e)))⟩)
    fix:=λ_ _ _=>rfl
    os:=rfl
    tape:=rfl
    output:=rfl
    grown:=by rw[IE];exact aJ _
    drawn:=λh=>h.elim }
  .cases z
 .cases z
end Go.Proofs.YthppjmoncapdfaaGreatDoor.cl
set_option maxRecDepth 100000
set_option maxHeartbeats 2000000
namespace Go.Proofs.YthppjmoncapdfaaGreatDoor.cl
open Go Go.AM Go.RowKit
attribute [local go_sem] tF
def OG (n:Nat) (sl:Value) (h1:sl.oneCell'=true) (w:World):CallsIn Fence.wide n P 54 #[.agg #[sl]] w λe w'=>e= .returned (.func (.func 82) #[] #[.pointer (some ⟨w.heap.size,0,none⟩)])/\w'=w.alloc (.cells #[sl] 24):=by
 refine qd Tryz.func54 rfl trivial ?_ rfl;simp only[Tryz.ntmps54,jT,aT,cL,Nat.reduceAdd,Nat.reduceSub,lg,lq,lu,lz,er,eM]
 gi_wp2
 go_ret
 exact⟨rfl,rfl⟩
def xm:∀{xs:List (List AV)} {g:List uH},rC xs=some g->xs=(cy.nodes g).map Node.enc
 |[],g,h=>by
  have:g=[]:=(eO h).symm
  subst this;rfl
 |[.int .i64 t, .c4 2 l]::xs,g,h=>by
  have h:(match rL l,rC xs with
   |some a,some r=>some ((t,a)::r)
   |_,_=>none)=some g:=h
  split at h
  .rename_i a r q z;have:=eO h;subst this;rw[xm z,y9 q];simp[cy.nodes,cy.AB,Node.enc,He,bD.enc,jQ]
  .cases h
def sJ {μ:Mu} {a:AV} {u:Value} (h:rep μ a u):∀n,bl μ (replicate n a) (replicate n u)
 |0=>rfl
 |n+1=>⟨u,_,rfl,h,sJ h n⟩
def HY {μ:Mu} {g:List uH} {K:Value} (h:rep μ (.c4 2 ((cy.nodes g).map Node.enc)) K):∀x∈g,x.2.length<=9223372036854775807:=by
 intro x z;obtain⟨i,F⟩:=fG.1 z;rw[rep.eq_def] at h;dsimp only at h;obtain⟨A,c,rfl,_,_,B|⟨b,I,_,l⟩⟩:=h
 .have:g=[]:=by simpa[cy.nodes] using B
  subst this;simp at z
 .have G:((cy.nodes g).map Node.enc)[i]? =some (Node.enc ⟨x.1,cy.AB x.2⟩):=by simp[cy.nodes,F]
  obtain⟨W,⟨D,_⟩,_⟩:=xz l G;obtain⟨S,V,_,_,U,O,_,q,_⟩:=D;rw[rep.eq_def] at q;dsimp only at q;obtain⟨Q,c',_,R,H,_⟩:=q
  have:(List.map bD.enc (cy.AB x.2)).length=x.2.length:=by simp[cy.AB]
  unfold maxLen at H;omega
def WS {μ:Mu} {l:World} {g:List uH} {ps:List (List Int)} {r:Loop} {B G H N:Nat} {sl:Value} (hNg:g.length=N) (h0:0<g.length) (hN:g.length<=1073741824) (hps:tP g=some ps) (V:Bf μ l) (hH:μ H 0=some sl) (z1:rep μ (.c4 2 ((cy.nodes g).map Node.enc)) sl) (h1:sl.oneCell'=true)
  (MJ:l.heap[B]? =some (.cells #[.slice (some ⟨G,0,none⟩) N N] 58 (0,0))) (hG0:l.heap[G]? =some (.cells (replicate N (Value.slice none 0 0)).toArray 60 (0,0))) (hBG:B≠G) (hmB:∀j,μ B j=none) (hmG:∀j,μ G j=none) (hpr:r.params.size=2)
  (R:∀F,Wd F->∀(m:Nat) (pv:Value) (W:World) (vs:List Value),W.heap[l.heap.size+1]? =some (.loop r)->W.heap[B]? =some (.cells #[.slice (some ⟨G,0,none⟩) N N] 58 (0,0))->W.heap[G]? =some (.cells vs.toArray 60 (0,0))->vs.length=N->m<N->(∃a n c,pv= .slice a n c)->
   RoundIn F (0-1) P (l.heap.size+1) r.fn ((r.params.zip #[.int .i64 m,pv]).foldl (λt (x,v)=>t.setIfInBounds x v) r.tmps) r.assign r.body W λe W'=>e= .returned (.bool true)/\W'=Tk r (l.heap.size+1) G m pv W):
  CallsIn Fence.wide 8 P 82 #[.func (.yield (l.heap.size+1)) #[] #[], .pointer (some ⟨H,0,none⟩)] ((l.alloc (.deferred (some []))).alloc (.loop r)) λe O=>(∃v,e= .returned v)/\∃I:Mu,μ.ext l.heap.size I/\Bf I O/\O.heap[l.heap.size+1]? =some (.loop r)/\O.heap[B]? =some (.cells #[.slice (some ⟨G,0,none⟩) N N] 58 (0,0))/\O.heap[l.heap.size]? =some (.deferred (some []))/\
   (∃vs:List Value,O.heap[G]? =some (.cells vs.toArray 60 (0,0))/\vs.length=N/\gV I (ps.map cy.eP) vs)/\(∀b,b=B\/b=G\/b=l.heap.size\/b=l.heap.size+1->∀j,I b j=none)/\(∀b,b<l.heap.size->b≠B->b≠G->O.heap[b]? =l.heap[b]?)/\O.os=l.os/\O.tape=l.tape/\O.output=l.output/\l.heap.size<=O.heap.size:=by
 have Nv:=(cO.1 MJ).1;have Vh:=(cO.1 hG0).1;obtain⟨K,z⟩:∃K,(l.alloc (.deferred (some []))).alloc (.loop r)=K:=⟨_,rfl⟩
 have q:∀k,k<l.heap.size->K.heap[k]? =l.heap[k]? :=λk hk=>by rw[<-z];exact(gv _ _ k aX).trans (gv _ _ k hk)
 have hs1:K.heap.size=l.heap.size+2:=by rw[<-z];simp
 have hl1:K.heap[l.heap.size+1]? =some (.loop r):=by rw[<-z];have:=World.alloc_heap_new (l.alloc (.deferred (some []))) (.loop r);rwa[World.size_alloc] at this
 have hD1:K.heap[l.heap.size]? =some (.deferred (some [])):=by rw[<-z];exact(gv _ _ _ ah).trans (World.alloc_heap_new l _)
 have ho:K.os=l.os/\K.tape=l.tape/\K.output=l.output:=by rw[<-z];exact⟨rfl,rfl,rfl⟩
 rw[z];have HD:Bf μ K:=λb j x hx=>by have h:=V b j x hx;rw[dW (q b (jx h)) j];exact h
 have hm:∀b,b=B\/b=G\/b=l.heap.size\/b=l.heap.size+1->∀j,μ b j=none:=by
  rintro b (rfl|rfl|D|D) j
  .exact hmB j
  .exact hmG j
  all_goals
   cases hx:μ b j with
   |none=>rfl
   |some x=>have:=jx (V _ _ _ hx);omega
 obtain⟨U,S⟩:∃U:List Value,U=[.pointer (some ⟨l.heap.size+1,0,none⟩), .pointer (some ⟨B,0,none⟩), .slice (some ⟨G,0,none⟩) N N, .pointer (some ⟨l.heap.size,0,none⟩)]:=⟨_,rfl⟩
 have hin:∀b,gE (.tuple U.toArray) b->b=B\/b=G\/b=l.heap.size\/b=l.heap.size+1:=by
  rintro b (h|⟨us',h,u,hu,D⟩)
  .cases h
  .have e:U=us':=by simpa using h
   subst e;rw[S] at hu;simp only[aD,dG,dV] at hu;rcases hu with rfl|rfl|rfl|rfl
   all_goals
    have D:=eO D;simp only at D;omega
 have hr:cy.Rn 82 [(.cl 2000000 [.r 10000]),(.pv (.ref (FSt.enc ⟨cy.nodes g⟩)))] [(10000,(.lp (replicate g.length (.c4 1 []))))]=some (.jy [],[(10000, .lp (ps.map cy.eP))]):=
  jD cy.uF _ _ (cy.ME h0 hN (HY z1) hps)
 have hs:=zA (q:=QL r (l.heap.size+1) B G l.heap.size N) (B:=λ_ _=>none) ok (λf fn c _ _=>jO.none (JW f) c) (y_ok hpr hBG af af af af R) 82 _ _ _ _ hr K μ (λ_=> .tuple U.toArray) [.func (.yield (l.heap.size+1)) #[] #[], .pointer (some ⟨H,0,none⟩)] (λ_ _ _ h=>by cases h) HD
  (λid o h=>by
   have hid:=jk h;subst hid;have ho:Ob.lp (replicate g.length (.c4 1 []))=o:=by simpa[find] using h
   subst ho;refine⟨U,rfl,λb D=>⟨.inr ⟨_,by simp[gJ],D⟩,?_,hm b (hin b D)⟩,S,hl1,(q B Nv).trans MJ,hD1,_,(q G Vh).trans hG0,by simp,?_,λu hu=> ?_⟩
   .rcases hin b D with h|h|h|h<;>omega
   .rw[hNg];exact sJ (by rw[rep];exact⟨none,0,rfl,aJ _,cB _, .inl rfl⟩) N
   .rw[(List.mem_replicate.1 hu).2];rfl)
  (λi j oi oj hi hj hij=>absurd ((jk hi).trans (jk hj).symm) hij)
  ⟨_,_,rfl,⟨[.pointer (some ⟨l.heap.size+1,0,none⟩)],rfl,_,_,rfl,by rw[S];rfl,rfl⟩,_,_,rfl,(by show rep μ (.ref (FSt.enc ⟨cy.nodes g⟩)) _;rw[rep];refine⟨H,0,[sl],rfl,⟨sl,[],rfl,z1,rfl⟩,by simpa using h1,λj u hj=> ?_⟩;cases j with
   |zero=>simp at hj;subst hj;exact hH
   |succ j=>simp at hj),rfl⟩
 rcases hs with⟨_,_,hC⟩|⟨h,_⟩
 .refine((kV (n:=8)).2 hC).mono ?_;rintro e O ⟨v,I,WB,rfl,Q⟩;have Db:=Q.fix 10000 ah (by decide);obtain⟨us2,e2,QO,e3,k1,k2,k3,k4⟩:=Q.obs 10000 _ rfl;rw[Db] at e2 QO;have hinB:∀b,b=B\/b=G\/b=l.heap.size\/b=l.heap.size+1->gE (.tuple U.toArray) b:=by
   intro b D;refine .inr ⟨U,rfl,?_⟩;rw[S];rcases D with rfl|rfl|rfl|rfl
   .exact⟨.pointer (some ⟨b,0,none⟩),by simp,rfl⟩
   .exact⟨.slice (some ⟨b,0,none⟩) N N,by simp,rfl⟩
   .exact⟨.pointer (some ⟨l.heap.size,0,none⟩),by simp,rfl⟩
   .exact⟨.pointer (some ⟨l.heap.size+1,0,none⟩),by simp,rfl⟩
  refine⟨⟨v,rfl⟩,I,⟨Q.ext.1,λb j x hx=>(Q.ext.2 b j x hx).imp id λh=>by omega⟩,Q.qk,k1,k2,k3,k4,λb D=>(QO b (hinB b D)).2.2,λb hlt n1 n2=>(Q.keep b af ?_).trans (q b hlt),Q.os.trans ho.1,Q.tape.trans ho.2.1,Q.output.trans ho.2.2,by have:=Q.grown;omega⟩;rintro⟨id,v',h1,h2⟩
  have:v'= .tuple U.toArray:=by
   simp only[gJ] at h1;split at h1
   .exact(eO h1).symm
   .cases h1
  rw[this] at h2;rcases hin b h2 with h|h|h|h<;>omega
 .exact absurd h (by decide)
def Bn {w:World} {o:Obj} {k:Nat} (h:k=w.heap.size):(w.alloc o).heap[k]? =some o:=by rw[h];exact World.alloc_heap_new w o
def mk29 {W:World} {N:Nat} (F:N<=1073741824):Sem.run P (Instr.makeSlice 58 (.int .i64 (N:Int)) (.int .i64 (N:Int))) W= .ok (.slice (some ⟨W.heap.size,0,none⟩) N N) (W.alloc (.cells (replicate N (Value.slice none 0 0)).toArray 60)):=by
 obtain⟨D,B,l,q,z⟩:=info_parts (show(P.info? 60).map (λi=>(i.zero,i.size,i.bytes))=some (some (.slice none 0 0),1,24) by kernel_rfl);have h:=run_make (P:=P) W 58 60 D _ Tryz.underlying58 B l .i64 .i64 N N af (gu _) (by rw[z];omega) af;rw[bf,q] at h;have e:madeCells (Value.slice none 0 0).cells (N *1)=(replicate N (Value.slice none 0 0)).toArray:=by have:=qi #[Value.slice none 0 0] 1 rfl (by decide) N;apply Array.toList_inj.1;rw[show(Value.slice none 0 0).cells= #[Value.slice none 0 0] from rfl,this];simp
 rw[e] at h;exact h
def Ir {g:Operand} {ps:Array Tmp} {assign body:Code} {Q:Exit->Act->World->Prop} {a:Act} {w:World} {gf:Nat} {lb:Array Value} (hg:a.eval g= .func (.func gf) #[] lb) (eg:∀args w,(callFunc gf args).run P w= .ok (.enter gf args) w)
  (h:∀fn,CallsIn Fence.wide 8 P gf (#[.func (.yield (w.heap.size+1)) #[] #[]]++lb) ((w.alloc (.deferred (some []))).alloc (.loop { state:= .ready,pending:=none,fn,tmps:=a.tmps,params:=ps,assign,body,defers:=w.heap.size })) (rangePost Fence.wide 9 P (w.heap.size+1) Q { a with defers:=[{ target:= .collected w.heap.size,args:= #[] }]++a.defers })):
  (Code.rangeFunc g ps assign body).wpIn Fence.wide 9 P Q a w:=by
 refine wpIn_rangeFunc ?_;intro fn _;obtain⟨W1,hW1⟩:∃W1,(w.alloc (.deferred (some []))).alloc (.loop { state:= .ready,pending:=none,fn,tmps:=a.tmps,params:=ps,assign,body,defers:=w.heap.size })=W1:=⟨_,rfl⟩
 refine⟨w.heap.size+1,[{ target:= .collected w.heap.size,args:= #[] }],W1,{ target:= .fn (.func gf) lb,args:= #[.func (.yield (w.heap.size+1)) #[] #[]] },W1,gf, #[.func (.yield (w.heap.size+1)) #[] #[]]++lb,W1,?_,?_,λ_ _=>trivial,?_,λ_=>by decide,?_⟩
 .rw[<-hW1];exact run_enterLoop_outer _ _ _ _ _
 .simp only[resolve,hg];simp[go_sem]
 .simp[invoke,go_sem,eg]
 .rw[<-hW1];exact h fn
def wM {μ:Mu}:∀{xs:List AV} {q:List Value},gV μ xs q->bS μ 1 (xs.map λx=>[x]) q
 |[],q,h=>h.1
 |x::xs,q,h=>by obtain⟨⟨u,F,rfl,B,D⟩,z⟩:=h;exact⟨[u],F,rfl,⟨⟨u,[],rfl,B,rfl⟩,λv l=>z v (by simp at l;simp[l])⟩,rfl,wM ⟨D,λv l=>z v (by simp[l])⟩⟩
def JL {μ O q:Mu} {loc:Nat->Value} {w l D Q:World} {N:Nat} {ps:List (List Int)} {vs:List Value} (U:μ.le O) (hx:∀b j x,O b j=some x->μ b j=some x\/w.heap.size<=b) (hs0:w.heap.size+4<=l.heap.size) (R:∀k,k<w.heap.size->l.heap[k]? =w.heap[k]?) (ho:l.os=w.os/\l.tape=w.tape/\l.output=w.output)
  (F:O.ext l.heap.size q) (K:Bf q D) (k4:D.heap[w.heap.size+1]? =some (.cells vs.toArray 60 (0,0))) (k5:vs.length=N) (k6:gV q (ps.map cy.eP) vs) (H:∀b,b=w.heap.size+1+1\/b=w.heap.size+1\/b=l.heap.size\/b=l.heap.size+1->∀j,q b j=none)
  (hk:∀b,b<l.heap.size->b≠w.heap.size+1+1->b≠w.heap.size+1->D.heap[b]? =l.heap[b]?) (ho2:D.os=l.os) (ht2:D.tape=l.tape) (I:D.output=l.output) (hgr:l.heap.size<=D.heap.size)
  (S:∀b,b≠l.heap.size+1->b≠l.heap.size->Q.heap[b]? =D.heap[b]?) (hz:Q.heap.size=D.heap.size) (e1:Q.os=D.os) (e2:Q.tape=D.tape) (e3:Q.output=D.output) (hN:N<=maxLen):
  ∃B,dY False μ loc [] (.c4 1 (ps.map λp=>[.c4 1 (p.map λn=>[.int .i64 n])])) [] w (.slice (some ⟨w.heap.size+1,0,none⟩) N N) B loc Q:=by
 obtain⟨B,z⟩:∃B:Mu,B=λb j=>if b=w.heap.size+1 then vs[j]? else q b j:=⟨_,rfl⟩
 have G:q.le B:=λb j x h=>by rw[z];dsimp only;rw[az (λe=>by rw[e,H _ (.inr (.inl rfl)) j] at h;cases h)];exact h
 have hl:ps.length=N:=by have:=kB k6.1;simp at this;omega
 refine⟨B,?_⟩
 exact {
  ext:=⟨(U.trans F.1).trans G,λb j x h=>by
   rw[z] at h;dsimp only at h;split at h
   .right;omega
   .rcases F.2 b j x h with h|h
    .exact hx b j x h
    .right;omega⟩
  qk:=λb j x h=>by
   rw[z] at h;dsimp only at h;split at h
   .rename_i e;subst e;have hb:=(S (w.heap.size+1) af af).trans k4;have h1:=k6.2 x (aS h);simp[y5,hb,h,h1]
   .have W:b≠l.heap.size+1:=λe=>by rw[H b (.inr (.inr (.inr e))) j] at h;cases h
    have hn2:b≠l.heap.size:=λe=>by rw[H b (.inr (.inr (.inl e))) j] at h;cases h
    rw[dW (S b W hn2) j];exact K b j x h
  res:= .inl (by
   rw[rep];refine⟨_,N,by simp[hl],by simp[hl],hN, .inr ⟨w.heap.size+1,0,rfl,pJ (μ:=q) (vs:=vs) ?_ G λj u hu=> ?_⟩⟩
   .have:=wM k6;rw[dw] at this;exact this
   .rw[z];dsimp only
    rw[ak rfl,fW];exact hu)
  obs:=λid o h=>by cases h
  apart:=λi j oi oj h=>by cases h
  keep:=λb V _=>((S b af af).trans (hk b af af af)).trans (R b V)
  fix:=λid h=>by cases h
  os:=(e1.trans ho2).trans ho.1
  tape:=(e2.trans ht2).trans ho.2.1
  output:=(e3.trans I).trans ho.2.2
  grown:=by omega
  drawn:=λh=>h.elim }
def RD {μ:Mu} {loc:Nat->Value} {w:World} {xs:List (List AV)} {g:List uH} {ps:List (List Int)} {u:Value} (oS:Bf μ w) (hg:rC xs=some g) (h0:0<g.length) (hN:g.length<=1073741824) (hps:tP g=some ps) (hu:rep μ (.agg [.c4 2 xs]) u):
  Calls P 29 #[u] w λe w'=>∃v μ' loc',e= .returned v/\dY False μ loc [] (.c4 1 (ps.map λp=>[.c4 1 (p.map λn=>[.int .i64 n])])) [] w v μ' loc' w':=by
 obtain⟨N,hNl⟩:∃N,xs.length=N:=⟨_,rfl⟩
 have hN':N<=1073741824:=by rw[<-hNl,xm hg];simpa[cy.nodes] using hN
 rw[rep.eq_def] at hu;dsimp only at hu;obtain⟨vs,rfl,⟨sl,vs',rfl,z1,OU⟩,h1⟩:=hu
 have:vs'=[]:=OU
 subst this;have Uv:=z1;rw[rep.eq_def] at Uv;dsimp only at Uv;obtain⟨A,c,rfl,hc1,QS,hA⟩:=Uv;refine(kV (n:=9)).1 ?_;have hf1:Fence.wide.fn 54:=trivial;have hf2:Fence.wide.fn 82:=trivial;have hn:1<=9:=by decide
 refine callsIn_of_wp_marks Tryz.func29 rfl trivial ?_ rfl;simp only[Tryz.ntmps29,jT,aT,cL,Nat.reduceAdd,Nat.reduceSub,lg,lq,lu,lz,er,eM];rw[hNl] at z1 h1⊢;have hmk:=λW=>mk29 (W:=W) hN'
 gi_wp2_with (gi_at_call 54;refine(OG 8 _ rfl _).mono ?_;rintro e w1 ⟨rfl,rfl⟩)
 obtain⟨W0,SQ⟩:∃W0,((((w.alloc (Obj.cells #[Value.slice A N c] 24)).alloc (Obj.cells (Array.replicate N (Value.slice none 0 0)) 60)).alloc (Obj.cells #[Value.slice (some ⟨w.heap.size+1,0,none⟩) N N] 58)).alloc (Obj.cells #[Value.slice A N c] 24))=W0:=⟨_,rfl⟩
 rw[SQ];have hs0:w.heap.size+4<=W0.heap.size:=by rw[<-SQ];simp
 have hold:∀k,k<w.heap.size->W0.heap[k]? =w.heap[k]? :=λk hk=>by rw[<-SQ];exact(gv _ _ k aX).trans ((gv _ _ k aX).trans ((gv _ _ k aX).trans (gv _ _ k hk)))
 have hG0:W0.heap[w.heap.size+1]? =some (.cells (replicate N (Value.slice none 0 0)).toArray 60 (0,0)):=by rw[<-SQ];exact(gv _ _ _ ah).trans ((gv _ _ _ ah).trans ((Bn ah).trans ah))
 have MJ:W0.heap[w.heap.size+1+1]? =some (.cells #[.slice (some ⟨w.heap.size+1,0,none⟩) N N] 58 (0,0)):=by rw[<-SQ];exact(gv _ _ _ ah).trans (Bn ah)
 have hH0:W0.heap[w.heap.size+1+1+1]? =some (.cells #[.slice A N c] 24 (0,0)):=by rw[<-SQ];exact Bn ah
 have ho:W0.os=w.os/\W0.tape=w.tape/\W0.output=w.output:=by rw[<-SQ];exact⟨rfl,rfl,rfl⟩
 clear SQ;have uq:∀b,w.heap.size<=b->∀j,μ b j=none:=λb hb j=>by cases hx:μ b j with
  |none=>rfl
  |some x=>have:=jx (oS _ _ _ hx);omega
 obtain⟨μ1,OW⟩:∃μ1:Mu,μ1=λb j=>if b=w.heap.size+1+1+1/\j=0 then some (.slice A N c) else μ b j:=⟨_,rfl⟩
 have hle:μ.le μ1:=λb j x hx=>by have:=jx (oS _ _ _ hx);rw[OW];dsimp only;rw[az af];exact hx
 have HD:Bf μ1 W0:=λb j x hx=>by
  rw[OW] at hx;dsimp only at hx;split at hx
  .rename_i h;obtain⟨rfl,rfl⟩:=h;rw[<-hx];simp[y5,hH0,Value.oneCell']
  .have h:=oS b j x hx;rw[dW (hold b (jx h)) j];exact h
 have Nw:∀b,w.heap.size<=b->b≠w.heap.size+1+1+1->∀j,μ1 b j=none:=λb hb hne j=>by rw[OW];dsimp only;rw[az af];exact uq b hb j
 have hx:∀b j x,μ1 b j=some x->μ b j=some x\/w.heap.size<=b:=λb j x hx=>by
  rw[OW] at hx;dsimp only at hx;split at hx
  .right;omega
  .exact .inl hx
 have hxs:=xm hg;have hgN:g.length=N:=by rw[<-hNl,hxs];simp[cy.nodes]
 refine Ir (gf:=82) (lb:= #[.pointer (some ⟨w.heap.size+1+1+1,0,none⟩)]) rfl (enters_of Tryz.func82 (by kernel_rfl) rfl) λfn=> ?_
 refine(WS (μ:=μ1) (g:=g) (ps:=ps) (B:=w.heap.size+1+1) (G:=w.heap.size+1) (H:=w.heap.size+1+1+1) (N:=N) (sl:= .slice A N c) hgN h0 hN hps HD (by rw[OW];simp) (by rw[<-hxs];exact qP hle _ _ z1) rfl MJ hG0 af (Nw _ af af) (Nw _ af af) rfl ?Ut).mono ?_
 case Ut=>
  intro F hF m pv W vs hl hB hG hvl hm hpv;obtain⟨a',n',c',rfl⟩:=hpv;have Nv:w.heap.size+1+1≠W0.heap.size+1:=af;have Vh:w.heap.size+1≠W0.heap.size+1:=af;refine roundIn_of_wpIn (hF.fn _) ?_
  gi_wp2
  refine⟨_,run_beginRound hl rfl,?_⟩;have hB2:∀o,(W.putObj (W0.heap.size+1) o).cell? ⟨w.heap.size+1+1,0,none⟩=some (.slice (some ⟨w.heap.size+1,0,none⟩) N N):=λo=>by have:=(World.putObj_heap_other (w:=W) (o:=o) Nv).trans hB;simp[World.cell?,this]
  have hG1:∀o,(W.putObj (W0.heap.size+1) o).heap[w.heap.size+1]? =some (.cells vs.toArray 60 (0,0)):=λo=>(World.putObj_heap_other (w:=W) (o:=o) Vh).trans hG
  have hG2:∀o,(W.putObj (W0.heap.size+1) o).cell? ⟨w.heap.size+1,m,none⟩=some (vs[m]'(by omega)):=λo=>by simp only[World.cell?,hG1 o];simp[show m<vs.length by omega]
  have hG3:∀o,(W.putObj (W0.heap.size+1) o).frozen? ⟨w.heap.size+1,m,none⟩=false:=λo=>by simp only[World.frozen?,hG1 o];simp
  gi_wp2
  exact⟨_,_,run_endRound none ((Below.heap_setCell _ _ _ _ (λe=>Vh e.symm)).trans (World.putObj_heap_same (cO.1 hl).1)),rfl,rfl⟩
 rintro e W2 ⟨⟨v,rfl⟩,μ2,hext,Wn,k1,k2,k3,⟨vs,k4,k5,k6⟩,hm2,hk,ho2,ht2,Wj,hgr⟩;refine⟨none,_,run_endLoop k1 ah,?_⟩;have c3:∀o,(W2.putObj (W0.heap.size+1) o).cell? ⟨w.heap.size+1+1,0,none⟩=some (.slice (some ⟨w.heap.size+1,0,none⟩) N N):=λo=>by have:=(World.putObj_heap_other (w:=W2) (o:=o) (show w.heap.size+1+1≠W0.heap.size+1 by omega)).trans k2;simp[World.cell?,this]
 gi_wp2
 refine⟨ah, .inl ⟨_,_,rfl,run_takeDeferred ((World.putObj_heap_other af).trans k3),?_⟩⟩;refine⟨_,results_tmp rfl _ _ _,?_⟩;obtain⟨μ3,h3⟩:=JL (loc:=loc) hle hx hs0 hold ho hext Wn k4 k5 k6 hm2 hk ho2 ht2 Wj hgr (λb h1 h2=>(World.putObj_heap_other h2).trans (World.putObj_heap_other h1)) (by simp[World.putObj]) rfl rfl rfl (by unfold maxLen;omega);exact⟨_,μ3,loc,rfl,h3⟩
end Go.Proofs.YthppjmoncapdfaaGreatDoor.cl
namespace Go.Proofs.YthppjmoncapdfaaGreatDoor.cl
open Go Go.AM Go.RowKit
def D5:∀{xs:List (List AV)} {l:List (List UInt8)},strs xs=some l->xs=l.map iP:=by intro xs;induction xs with
 |nil=>intro l h;simp[strs] at h;subst h;rfl
 |cons c xs D=>
  intro l h;unfold strs at h;split at h
  .rename_i e;cases e
  .rename_i s F e;injection e with q z;subst q z;simp only[bg] at h;obtain⟨m,B,rfl⟩:=h;rw[D B];rfl
  .cases h
def HJ (q:List UInt8):∀l:List (List UInt8),DH q l=Lib.join l q:=by intro l;cases l with
 |nil=>rfl
 |cons x l=>rw[Lib.join_cons];induction l generalizing x with
  |nil=>simp[DH,Lib.joinTail]
  |cons y l z=>simp only[DH,z y,Lib.joinTail,aK,nu,eo]
def AX {μ:Mu} {loc:Nat->Value} {w w':World} {r:AV} {v:Value} (z:Bf μ w) (l:Below w.heap.size w w') (B:rep μ r v):dY False μ loc [] r [] w v μ loc w' where
 ext:=⟨Mu.le.refl _,λ_ _ _ h=> .inl h⟩
 qk:=λb j x D=>by have h:=z b j x D;rw[dW (l.block b (jx h)) j];exact h
 res:= .inl B
 obs:=λid o h=>by cases h
 apart:=λi j F G h=>by cases h
 keep:=λb q _=>l.block b q
 fix:=λid h=>by cases h
 os:=l.os
 tape:=l.tape
 output:=l.output
 grown:=l.size
 drawn:=λh=>h.elim
def QA:Mu:=λb j=>if b=0/\j<64 then some (.int .u8 (Lib.deBruijn64tab.getD j 0)) else none
def L8:∀(k n:Nat),tz k n=Lib.ctzFrom k n
 |0,_=>rfl
 |k+1,n=>by
  rw[tz,Lib.ctzFrom,L8 k];by_cases h:n % 2=1
  .simp[h]
  .have l:Nat.beq (n % 2) 1=false:=by
    cases l:Nat.beq (n % 2) 1 with
    |false=>rfl
    |true=>exact absurd (eN l) h
   rw[az h,l];rfl
def U1 (n:Nat):tz 64 n=Lib.ctz 64 n:=by
 rw[L8,Lib.ctz];split
 .rename_i h;subst h;decide
 .rfl
def fS {D:Nat} {L:nV} {μ:Mu} {loc:Nat->Value} {w:World} {id e F:Nat} {xs:List (List AV)} (h:jC D L μ loc w id (.row e F xs)):dO (loc id)=loc id:=by
 obtain⟨G,l,_⟩:=h;rcases l.2 with⟨q,_⟩|⟨g,z,B,q,_⟩
 .rw[q];rfl
 .rw[q];rfl
def Qq:dX False QA P LZ:=by
 intro g args Kn r u5 B w μ loc us hB q R hap O;unfold LZ at B;split at B
 .rename_i xs Q;split at B
  .rename_i l hl;obtain⟨K,B⟩:=aZ B;simp only[aF] at K;have h1:=cI K.1;have h2:=cI K.2;simp only[aB,aQ] at B;obtain⟨rfl,rfl⟩:=B;have U:=D5 hl;subst U;obtain⟨W,G,rfl,F,D⟩:=O;obtain⟨u1,us2,rfl,hu1,Ux⟩:=D
   have:us2=[]:=Ux
   subst this;have z:rep μ (.c4 1 (l.map iP)) W:=F;have I:rep μ (.str Q) u1:=hu1;rw[rep.eq_def] at z;rw[rep.eq_def] at I;dsimp only at z I;subst I;obtain⟨A,c,rfl,hc1,QS,hA⟩:=z;refine .inl ⟨by decide,λw2=>jH Tryz.func128 (by decide) (by rfl) _ w2,?_⟩
   .rcases hA with h0|⟨b,V,rfl,hrow⟩
    .have hl0:l=[]:=by simpa using h0
     subst hl0;refine(Tryz.strings_Join_none A c ⟨Q.toArray⟩ w).mono ?_;rintro e w' ⟨rfl,rfl⟩;exact⟨_,μ,loc,rfl,AX q (fZ _ _) (by rw[rep];rfl)⟩
    .cases S:l with
     |nil=>subst S;refine(Tryz.strings_Join_none (some ⟨b,V,none⟩) c ⟨Q.toArray⟩ w).mono ?_;rintro e w' ⟨rfl,rfl⟩;exact⟨_,μ,loc,rfl,AX q (fZ _ _) (by rw[rep];rfl)⟩
     |cons x0 l0=>
      rw[<-S];have H:∀(j:Nat) s,l[j]? =some s->μ b (V+j)=some (.string ⟨s.toArray⟩):=by intro j s hs;obtain⟨vs,k1,k2,k3⟩:=xz hrow (i:=j) (x:=iP s) (by simp[hs]);have k1':=k1.1;simp only[iP,bl] at k1';obtain⟨u,us,rfl,hu,rfl⟩:=k1';rw[rep] at hu;subst hu;have:=k3 0 _ rfl;simpa using this
      have hlt:b<w.heap.size:=jx (q _ _ _ (H 0 x0 (by simp[S])));have e1:(l.map λs=>(⟨s.toArray⟩:ByteArray)).map (·.data.toList)=l:=by rw[dw];simp[jQ]
      have:=Tryz.strings_Join b V c (l.map λs=>⟨s.toArray⟩) ⟨Q.toArray⟩ w (λj x hx=>by
       simp only[dz,bg] at hx;obtain⟨s,hs,rfl⟩:=hx
       exact oW (q _ _ _ (H j s hs)) rfl) hlt (by simpa using h2) (by simpa using hc1) (by rw[e1,<-HJ];exact h1)
      rw[e1,<-HJ,aR] at this;rw[aR];refine this.mono ?_;rintro e w' ⟨rfl,hbw⟩;exact⟨_,μ,loc,rfl,AX q hbw (by rw[rep])⟩
  .cases B
 .rename_i n;split at B
  .rename_i m;obtain⟨K,B⟩:=aZ B;have hm:m<18446744073709551616:=by simpa[bA] using K
   simp only[aB,aQ] at B;obtain⟨rfl,rfl⟩:=B;obtain⟨W,G,rfl,F,D⟩:=O
   have:G=[]:=D
   subst this;have z:rep μ (.int .u64 (Int.ofNat m)) W:=F;rw[rep] at z;subst z;refine .inl ⟨by decide,λw2=>jH Tryz.func186 (by decide) (by rfl) _ w2,?_⟩;have htab:TabAt 0 Lib.deBruijn64tab w:=by intro j hj;have hj64:j<64:=hj;exact oW (q 0 j _ (hB 0 j _ (by simp only[QA];rw[ak ⟨trivial,hj64⟩]))) rfl
   refine(Any7.bits_TrailingZeros64 Tryz.lays29 m hm w (λ_=>htab)).mono ?_;rintro e w' ⟨rfl,rfl⟩;exact⟨_,μ,loc,rfl,AX q (fZ _ _) (by rw[rep,U1])⟩
  .cases B
 .rename_i xs;split at B
  .rename_i l hl;obtain⟨K,B⟩:=aZ B;simp only[aB,aQ] at B;obtain⟨rfl,rfl⟩:=B;have U:=D5 hl;subst U;obtain⟨W,G,rfl,F,D⟩:=O
   have:G=[]:=D
   subst this;have z:W=loc 10000:=(show W=dO (loc 10000) from F).trans (fS (R 10000 _ rfl));subst z;exact .inl ⟨by decide,λw2=>jH Tryz.func180 (by decide) (by rfl) _ w2,UU (cI K) q (R 10000 _ rfl)⟩
  .cases B
 .rename_i xs;obtain⟨K,B⟩:=aZ B;simp only[aB,aQ] at B;obtain⟨rfl,rfl⟩:=B;obtain⟨W,G,rfl,F,D⟩:=O
  have:G=[]:=D
  subst this;exact .inl ⟨by decide,λw2=>jH Tryz.func57 (by decide) (by rfl) _ w2,Lh (q:=False) (λh=>h) q F (cI K)⟩
 .cases B
def L0:dX False QA P dm:=by
 intro g args Kn r S q w μ loc us hB D H W I;unfold dm at q;split at q
 .rename_i xs;split at q
  .rename_i l hl;obtain⟨F,q⟩:=aZ q;simp only[aF] at F;simp only[aB,aQ] at q;obtain⟨rfl,rfl⟩:=q;obtain⟨hxs,hlt⟩:=MD hl;subst hxs;obtain⟨u0,O,rfl,G,B⟩:=I;obtain⟨u1,U,rfl,Q,K⟩:=B
   have:U=[]:=K
   subst this;have hu0':u0=loc 10000:=(show u0=dO (loc 10000) from G).trans (fS (H 10000 _ rfl));subst hu0';have z:rep μ (.fn 131 []) u1:=Q;rw[rep.eq_def] at z;dsimp only at z;obtain⟨vs,rfl,R⟩:=z
   have:vs=[]:=R
   subst this;have h:=Qy (S:=SKc) (l:=l) Tryz.laysF6 Tryz.isAgg112 Tryz.sizeOf112 (cI F.2) (by rw[NN];exact KU F.1) hlt D (H 10000 _ rfl);rw[NN] at h;exact .inl ⟨by decide,λV=>jH Tryz.func130 (by decide) (by rfl) _ V,h⟩
  .cases q
 .rename_i xs;obtain⟨F,q⟩:=aZ q;simp only[aB,aQ] at q;obtain⟨rfl,rfl⟩:=q;obtain⟨u0,O,rfl,G,B⟩:=I
  have:O=[]:=B
  subst this;exact .inl ⟨by decide,λV=>jH Tryz.func74 (by decide) (by rfl) _ V,Ru (q:=False) (λh=>h) D G (cI F)⟩
 .rename_i xs;split at q
  .rename_i l hl;obtain⟨F,q⟩:=aZ q;simp only[aF] at F;simp only[aB,aQ] at q;obtain⟨rfl,rfl⟩:=q;obtain⟨u0,O,rfl,G,B⟩:=I;obtain⟨u1,U,rfl,Q,K⟩:=B
   have:U=[]:=K
   subst this;have z:rep μ (.fn 167 []) u1:=Q;rw[rep.eq_def] at z;dsimp only at z;obtain⟨vs,rfl,R⟩:=z
   have:vs=[]:=R
   subst this;exact .inl ⟨by decide,λV=>jH Tryz.func165 (by decide) (by rfl) _ V,Nh D hl F.1 (cI F.2) G⟩
  .cases q
 .rename_i n;split at q
  .rename_i m;obtain⟨F,q⟩:=aZ q;simp only[aB,aQ] at q;obtain⟨rfl,rfl⟩:=q;exact RN 83 _ [] _ [] (O6 (cI F)) w μ loc us (λ_ _ _ h=>by cases h) D H W I
  .cases q
 .rename_i xs;split at q
  .rename_i g hg;obtain⟨F,q⟩:=aZ q;simp only[aF] at F;obtain⟨ps,hps,q⟩:=bg.1 q;simp only[aQ] at q;obtain⟨rfl,rfl⟩:=q;obtain⟨u0,O,rfl,G,B⟩:=I
   have:O=[]:=B
   subst this;exact .inl ⟨by decide,λV=>jH Tryz.func29 (by decide) (by rfl) _ V,RD D hg (cI F.1) (cI F.2) hps G⟩
  .cases q
 .exact Qq g args Kn r S q w μ loc us hB D H W I
end Go.Proofs.YthppjmoncapdfaaGreatDoor.cl
namespace Go.AM
open Go.RowKit
section
variable {P:Program} {N:Nat} {w0:World} {μ0 μ μ':Mu} {L:nV} {loc loc':Nat->Value} {st st' st1:St} {a a':Act} {w w':World}
def Oper.Nr {F:Fence} {n:Nat} {o:Oper} {K I:Act->World->Prop} {Q G:Exit->Act->World->Prop} {i:Nat} (D:o.dst≠some i) (h:o.wpIn F n P a w K Q) (z:∀a' w',a'.tmps[i]? =a.tmps[i]? ->K a' w'->I a' w')
  (H:∀B w',Q (.panic B) a w'->G (.panic B) a w') (O:LetsOut Q->LetsOut G):o.wpIn F n P a w I G:=by
 have put:∀v,(a.put o.dst v).tmps[i]? =a.tmps[i]? :=by
  intro v;unfold Act.put;split
  .rename_i d q;rw[q] at D
   have:d≠i:=λe=>D (by rw[e])
   simp[qe,this]
  .rfl
 refine⟨h.1,?_⟩;have h:=h.2;generalize (o.semAt F.round a.eval).run P w=r at h⊢;unfold Oper.uponIn at h⊢;split at h
 .exact z _ _ (put _) h
 .exact z _ _ (put _) h
 .rename_i d w';refine z _ _ ?_ h;have:=put;unfold Act.put;split
  .rename_i e q;rw[q] at D
   have:e≠i:=λh=>D (by rw[h])
   simp[qe,this]
  .rfl
 .refine⟨h.1,h.2.mono ?_⟩;intro e R l;cases e with
  |returned v=>exact z _ _ (put _) l
  |panicked B=>exact H _ _ l
  |outgrown=>exact O l
 .exact⟨h.1,h.2.mono λv R l=>z _ _ (put _) l⟩
 .refine⟨h.1,h.2.mono ?_⟩;intro e R l;cases e with
  |returned v=>exact z _ _ (put _) l
  |panicked B=>exact H _ _ l
  |outgrown=>exact O l
 .exact H _ _ h
 .exact h.elim
def IX {F:Fence} {n:Nat} {z:Array Oper} {Q:Exit->Act->World->Prop} {i:Nat} {x:Option Value}:∀(l:List Oper) (a:Act) (w:World),(∀o∈l,o.dst≠some i)->a.tmps[i]? =x->wpListIn F n P z Q l a w->
  wpListIn F n P z (λe a' w'=>Q e a' w'/\(e= .normal->a'.tmps[i]? =x)) l a w:=by
 have O:LetsOut Q->LetsOut (λe a' w'=>Q e a' w'/\(e= .normal->a'.tmps[i]? =x)):=λ⟨a,w,h⟩=>⟨a,w,h,λe=>by cases e⟩
 intro l;induction l with
 |nil=>intro a w _ B h;exact⟨h,λ_=>B⟩
 |cons o l K=>
  intro a w D B h;have q:=D o ah;unfold wpListIn at h⊢;split at h
  .rename_i I;rw[ak I];exact Oper.Nr q h (λa' w' e R=>K a' w' (λo H=>D o (by simp[H])) (e.trans B) R) (λU w' S=>⟨S,λe=>by cases e⟩) O
  .rename_i I;rw[az I];refine⟨h.1,K _ _ (λo H=>D o (by simp[H])) ?_ h.2⟩;rw[<-B];unfold Act.put;split
   .rename_i d G;rw[G] at q
    have:d≠i:=λe=>q (by rw[e])
    simp[qe,this]
   .rfl
def FC (l:Nat->Option Ob) (loc:Nat->Value) (q:Qp):nV:=⟨λid=>if(l id).isSome=true then some (loc id) else none,q⟩
def sN {z:Nat->Option Ob} {loc:Nat->Value} {q:Qp} {id:Nat} {v:Value} (h:(FC z loc q) id=some v):(∃o,z id=some o)/\v=loc id:=by
 have l:(if(z id).isSome=true then some (loc id) else none)=some v:=h;split at l
 .rename_i B;injection l with l;exact⟨kK.1 B,l.symm⟩
 .cases l
def L6 {l:Nat->Option Ob} {loc:Nat->Value} {q:Qp} {id:Nat} {o:Ob} (h:l id=some o):(FC l loc q) id=some (loc id):=by show(if(l id).isSome=true then some (loc id) else none)=_;rw[h];rfl
def jC.own {n0 n1:Nat} {Q:nV} {id:Nat} {o:Ob} (h:jC n0 L μ loc w id o) (hm:∀k e s O B,o≠ .mr k e s O B) (G:∀b,gE (loc id) b->zq n1 Q id b) (hq:Q.q=L.q:=by rfl):jC n1 Q μ loc w id o:=by cases o with
 |box t cells=>obtain⟨b,B,q,_,l⟩:=h;exact⟨b,B,q,G b (by rw[q];exact mq.2 rfl),l⟩
 |row e U xs=>obtain⟨B,hw,H,z⟩:=h;exact⟨B,hw,H,λg D=>⟨G g D,(z g D).2⟩⟩
 |mp k e O es=>obtain⟨b,I,F,q,_,l⟩:=h;exact⟨b,I,F,q,G b (by rw[q];exact qh.2 rfl),l⟩
 |mr k e U O B=>exact absurd rfl (hm k e U O B)
 |it s pos=>obtain⟨b,q,_,l⟩:=h;exact⟨b,q,G b (by rw[q];exact mq.2 rfl),l⟩
 |lp xs=>obtain⟨V,q,h1,R⟩:=h;exact⟨V,q,λg z=>⟨G g z,(h1 g z).2⟩,by rw[hq];exact R⟩
 |rn e U k e' sz' xs ys=>obtain⟨m,V,B,q,S,K,H,hk,R,h3,h4,l⟩:=h;refine⟨m,V,B,q,λg z=>⟨G g (by rw[q];exact gO.2 (.inl z)),(S g z).2⟩,K,H,hk,R,h3,λi zs hi=> ?_,l⟩;obtain⟨u,cells,W,k2,k3,k4,k5⟩:=h4 i zs hi;exact⟨u,cells,W,k2,k3,k4,λg z=>⟨G g (by rw[q];exact gO.2 (.inr ⟨u,aS W,z⟩)),(k5 g z).2⟩⟩
def Rel.re (l:Rel N w0 μ0 L μ loc st a w) (K:a'.tmps.size=N) (F:a'.defers=[]) (G:∀i D,st1.env i=some D->∃v,a'.tmps[i]? =some v/\eV μ loc D v) (q:∀id o,st1.ob id=some o->st.ob id=some o):Rel N w0 μ0 L μ loc st1 a' w:=
 ⟨l.small,l.names,l.fix,K,F,G,l.qk,l.base,λid o h=>l.obs id o (q id o h),λi j z B H I=>l.apart i j z B (q i z H) (q j B I),l.keep,l.os,l.tape,l.output,l.grown,l.drawn⟩
def Rel.sub (q:Rel N w0 μ0 L μ loc st a w) (z:∀i l,st1.env i=some l->st.env i=some l) (B:∀id o,st1.ob id=some o->st.ob id=some o):Rel N w0 μ0 L μ loc st1 a w:=
 q.re q.size q.defers (λi l h=>q.env i l (z i l h)) B
def Rel.into (l:Rel N w0 μ0 L μ loc st a w) (q:∀id o,st.ob id=some o->10000<=id/\∀k e s F G,o≠ .mr k e s F G):Rel N w μ (FC st.ob loc L.q) μ loc st a w:=by
 refine⟨l.small,λid h=> ?_,λid v h _=>(sN h).2.symm,l.size,l.defers,l.env,l.qk,⟨Mu.le.refl _,λ_ _ _ h=> .inl h⟩,λid o h=> ?_,l.apart,λ_ _ _=>rfl,rfl,rfl,rfl,aJ _,λ_=>aJ _⟩
 .cases D:(FC st.ob loc L.q) id with
  |none=>rfl
  |some v=>obtain⟨⟨o,B⟩,_⟩:=sN D;have:=(q id o B).1;omega
 .exact(l.obs id o h).own (q id o h).2 λb z=> .inr ⟨loc id,L6 h,z⟩
def Rel.back (z:Rel N w0 μ0 L μ loc st a w) (l:Rel N w μ (FC st.ob loc L.q) μ' loc' st' a' w') {names:List Nat} (hn:∀id,(st.ob id).isSome=true↔id∈names)
  (U:∀id o,st'.ob id=some o->id∈names/\o.closed names=true/\o.pq (λi=>i)=o) (he:∀i O,st'.env i=some O->O.closed names=true/\O.pq (λi=>i)=O):
  (∃K,Rel N w0 μ0 L μ' K st' a' w'/\∀id o,st'.ob id=some o->∀g,gE (K id) g->w.heap.size<=g\/∃id' S,st.ob id'=some S/\gE (loc id') g)/\(∀b,b<w.heap.size->(∀id o,st.ob id=some o->¬gE (loc id) b)->w'.heap[b]? =w.heap[b]?):=by
 have I:∀id o,st.ob id=some o->∀b,gE (loc id) b->zq w0.heap.size L id b:=λid o h b H=>((z.obs id o h).block b H).1
 have G:∀b,DJ (FC st.ob loc L.q) b->∃id o,st.ob id=some o/\gE (loc id) b:=by rintro b ⟨id,v,h,H⟩;obtain⟨⟨o,B⟩,rfl⟩:=sN h;exact⟨id,o,B,H⟩
 refine⟨⟨λid=>if id∈names then loc' id else loc id,⟨z.small,z.names,λid v h D=> ?_,l.size,l.defers,λi O h=> ?_,l.qk,⟨z.base.1.trans l.base.1,λb j v h=> ?_⟩,λid o h=> ?_,λi j oi oj hi R hne=> ?_,λb H hl=> ?_,
  l.os.trans z.os,l.tape.trans z.tape,l.output.trans z.output,cV z.grown l.grown,λq=>cV (z.drawn q) (l.drawn q)⟩,λid o h g hg=> ?_⟩,λb H hno=> ?_⟩
 .show(if id∈names then loc' id else loc id)=v;split
  .rename_i hm;obtain⟨o,ho'⟩:=kK.1 ((hn id).2 hm);rw[l.fix id _ (L6 ho') D];exact z.fix id v h D
  .exact z.fix id v h D
 .obtain⟨v,hv,hr⟩:=l.env i O h;obtain⟨V,c2⟩:=he i O h;refine⟨v,hv,?_⟩;have:=IC (loc':=λid=>if id∈names then loc' id else loc id) (ρ:=λi=>i) (names:=names) (λj R=>ak R) V hr;rwa[c2] at this
 .rcases l.base.2 b j v h with h|h
  .exact z.base.2 b j v h
  .exact .inr (cV z.grown h)
 .obtain⟨c0,V,c2⟩:=U id o h
  have:=B9 (n0':=w0.heap.size) (L':=L) (loc':=λid=>if id∈names then loc' id else loc id) (ρ:=λi=>i) (names:=names) (id':=id) (λj R=>ak R) V (l.obs id o h) (ak c0) (λb H=>by
   rcases((l.obs id o h).block b H).1 with B|⟨v,B,D⟩
   .exact .inl (cV z.grown B)
   .obtain⟨⟨S,Q⟩,rfl⟩:=sN B
    exact I id S Q b D)
  rwa[c2] at this
 .intro g hg;show¬gE (if j∈names then loc' j else loc j) g;rw[ak (U j oj R).1];have F:gE (if i∈names then loc' i else loc i) g:=hg;rw[ak (U i oi hi).1] at F;exact l.apart i j oi oj hi R hne g F
 .refine(l.keep b (dH H z.grown) λW=> ?_).trans (z.keep b H hl);obtain⟨id,o,B,D⟩:=G b W;rcases I id o B b D with Q|⟨v,Q,h4⟩
  .omega
  .exact hl ⟨id,v,Q,h4⟩
 .have F:gE (if id∈names then loc' id else loc id) g:=hg;rw[ak (U id o h).1] at F;rcases((l.obs id o h).block g F).1 with B|⟨v,B,D⟩
  .exact .inl B
  .obtain⟨⟨S,Q⟩,rfl⟩:=sN B;exact .inr ⟨id,S,Q,D⟩
 .refine l.keep b H λW=> ?_
  obtain⟨id,o,B,D⟩:=G b W;exact hno id o B D
def Fp {h:Hint} {l:cr} (z:dX L.q μ0 P l) {q:Array Oper} {id n:Nat} {e:Ex} (K:∀o∈q.toList,∀i,o.dst=some i->i<N) (B:exec P h l n (.region id q false) st=some (e,st')) (I:Rel N w0 μ0 L μ loc st a w)
  {Q:Exit->Act->World->Prop} (H:∀a' w' μ' loc',Rel N w0 μ0 L μ' loc' st' a' w'->Q .normal a' w'):wpListIn Fence.wide 0 P q Q q.toList a w:=by
 simp only[exec] at B;obtain⟨s1,D,B⟩:=bZ.1 B;obtain⟨O,F⟩:=Cb I D;simp only[aj] at B;cases G:lX P h l q q.toList s1 with
 |none=>simp[G] at B
 |some s=>simp[G] at B;obtain⟨rfl,rfl⟩:=B;exact yN z F K G H _ Wd.wide
def Rel.aside (z:Rel N w0 μ0 L μ loc st a w) {r:Nat} (R:w0.heap.size<=r) (F:∀j,μ r j=none) (H:∀id o,st.ob id=some o->¬gE (loc id) r) (B:∀b,b≠r->w'.heap[b]? =w.heap[b]?)
  (I:w'.os=w.os) (O:w'.tape=w.tape) (q:w'.output=w.output) (K:w'.heap.size=w.heap.size) (D:w.drawn<=w'.drawn):Rel N w0 μ0 L μ loc st a w':=by
 refine z.world (Mu.le.refl _) (λ_ _ _ h=> .inl h) (λb j v h=> ?_) (λid o h b l=>⟨B b λe=>H id o h (e▸l),((z.obs id o h).block b l).2.2⟩) (λb Q _=>B b af) I O q af (λ_=>D);have G:b≠r:=λe=>by rw[e,F j] at h;cases h
 rw[dW (B b G) j];exact z.qk b j v h
end
