/- path.First, taken as a primitive, is sound. -/
import Derived.Test.YthppjmoncapdfaaGreatDoorClCz
import Derived.Test.YthppjmoncapdfaaGreatDoorClQd
import Derived.Test.YthppjmoncapdfaaGreatDoorAmFin
import Derived.Maps.RangeRun
set_option maxRecDepth 100000
set_option maxHeartbeats 2000000
set_option linter.all false
open List (replicate)
namespace Go.Proofs.YthppjmoncapdfaaGreatDoor.cl
open Go Go.AM Go.RowKit
def LP (r:Loop) (l B G D N:Nat) (xs:List AV) (μ:Mu) (w:World) (us:List Value):Prop:=
 us=[.pointer (some ⟨l,0,none⟩), .pointer (some ⟨B,0,none⟩), .slice (some ⟨G,0,none⟩) N N, .pointer (some ⟨D,0,none⟩)]∧w.heap[l]? =some (.loop r)∧w.heap[B]? =some (.cells #[.slice (some ⟨G,0,none⟩) N N] 58 (0,0))∧
 w.heap[D]? =some (.deferred (some []))∧∃vs:List Value,w.heap[G]? =some (.cells vs.toArray 60 (0,0))∧vs.length=N∧ku μ xs vs
def QL (r:Loop) (l B G D N:Nat):Qp where
 p:=False
 lp:=LP r l B G D N
 mono:=fun h ⟨e,h1,h2,h3,vs,h4,h5,h6,h7⟩=>⟨e,h1,h2,h3,vs,h4,h5,fJ h _ _ h6,h7⟩
 keep:=fun {xs μ w w' us} hk ⟨e,h1,h2,h3,vs,h4,h5⟩=>by
  subst e;exact ⟨rfl,(hk l ⟨.pointer (some ⟨l,0,none⟩),by simp,rfl⟩).trans h1,(hk B ⟨.pointer (some ⟨B,0,none⟩),by simp,rfl⟩).trans h2,(hk D ⟨.pointer (some ⟨D,0,none⟩),by simp,rfl⟩).trans h3,vs,(hk G ⟨.slice (some ⟨G,0,none⟩) N N,by simp,rfl⟩).trans h4,h5⟩
def rnd (r:Loop) (l G m:Nat) (pv:Value) (W:World):World:=((W.putObj l (.loop { r with state:= .busy })).setCell ⟨G,m,none⟩ pv).putObj l (.loop r)
theorem Ys {r:Loop} {l G m:Nat} {pv:Value} {W:World} {b:Nat} (h1:b≠l) (h2:b≠G):(rnd r l G m pv W).heap[b]? =W.heap[b]? :=
 (World.putObj_heap_other h1).trans ((Below.heap_setCell _ _ _ b h2).trans (World.putObj_heap_other h1))
theorem RF {r:Loop} {l G m:Nat} {pv:Value} {W:World}:(rnd r l G m pv W).heap.size=W.heap.size:=by
 simp [rnd,World.putObj,World.setCell]
theorem rnd_l {r:Loop} {l G m:Nat} {pv:Value} {W:World} (h:l<W.heap.size):(rnd r l G m pv W).heap[l]? =some (.loop r):=
 World.putObj_heap_same (by simp [World.putObj,World.setCell];exact h)
theorem rnd_G {r:Loop} {l G m:Nat} {pv:Value} {W:World} {vs:List Value} (hG:W.heap[G]? =some (.cells vs.toArray 60 (0,0))) (hne:G≠l):(rnd r l G m pv W).heap[G]? =some (.cells (vs.set m pv).toArray 60 (0,0)):=by
 refine (World.putObj_heap_other hne).trans ?_;have h1:(W.putObj l (.loop { r with state:= .busy })).heap[G]? =some (.cells vs.toArray 60 (0,0)):=(World.putObj_heap_other hne).trans hG;show (Array.modify _ G _)[G]? =_;rw [yj,au rfl,h1];simp
theorem y_ok {r:Loop} {l B G D N:Nat} (hps:r.params.size=2) (hBG:B≠G) (hDG:D≠G) (YN:B≠l) (hDl:D≠l) (hGl:G≠l)
  (Ck:∀F,Wd F→∀(m:Nat) (pv:Value) (W:World) (vs:List Value),W.heap[l]? =some (.loop r)→W.heap[B]? =some (.cells #[.slice (some ⟨G,0,none⟩) N N] 58 (0,0))→W.heap[G]? =some (.cells vs.toArray 60 (0,0))→vs.length=N→m<N→(∃a n c,pv= .slice a n c)→
   RoundIn F (0-1) P l r.fn ((r.params.zip #[.int .i64 m,pv]).foldl (fun t (x,v)=>t.setIfInBounds x v) r.tmps) r.assign r.body W fun e W'=>e= .returned (.bool true)∧W'=rnd r l G m pv W):
  ga (QL r l B G D N) (fun _ _=>none) P cy.fk:=by
 intro g args cD r' gm hv w μ loc us hB gp yG hap qW;unfold cy.fk at hv;split at hv
 ·rename_i xs
  obtain ⟨hb,hv⟩:=bU hv;simp only [aG,br] at hv;obtain ⟨rfl,rfl⟩:=hv;obtain ⟨u0,UO,rfl,E1,yI⟩:=qW;have:UO=[]:=yI;subst this;exact .inl ⟨by decide,fun w2=>mJ Tryz.func57 (by decide) (by rfl) _ w2,Vf (q:=QL r l B G D N) (fun h=>h) gp E1 (cV hb)⟩
 ·rename_i n p out
  split at hv
  ·rename_i m
   obtain ⟨hb,hv⟩:=bU hv;simp only [aG,br] at hv;obtain ⟨rfl,rfl⟩:=hv;have hm:m<out.length:=cV hb;obtain ⟨u0,UO,rfl,E1,yI⟩:=qW;obtain ⟨u1,us2,rfl,hu1,Tv⟩:=yI;obtain ⟨u2,us3,rfl,YQ,hus3⟩:=Tv;have:us3=[]:=hus3;subst this;obtain ⟨us',nQ,hblk,hlp⟩:=yG 10000 _ rfl;obtain ⟨rfl,h1,h2,h3,vs,h4,h5,h6,h7⟩:=hlp;have E4:rep μ (.int .i64 (Int.ofNat m)) u0:=E1;rw [rep] at E4;subst E4;have Cl:rep μ (.eH 1 p) u1:=hu1;have DR:∃a n c,u1= .slice a n c:=by
    rw [rep.eq_def] at Cl;obtain ⟨A,c,e,_⟩:=Cl;exact ⟨A,_,c,e⟩
   have hu2':u2=fM (loc 10000):=YQ;rw [nQ] at hu2';have YQ:u2= .pointer (some ⟨l,0,none⟩):=hu2';subst YQ;have hlen:vs.length=out.length:=n9 h6;have hin:∀g:Nat,g=l∨g=B∨g=G∨g=D→jH (loc 10000) g:=fun g hg=>by
    rw [nQ];refine .inr ⟨_,rfl,?_⟩;rcases hg with rfl|rfl|rfl|rfl
    ·exact ⟨.pointer (some ⟨g,0,none⟩),by simp,rfl⟩
    ·exact ⟨.pointer (some ⟨g,0,none⟩),by simp,rfl⟩
    ·exact ⟨.slice (some ⟨g,0,none⟩) N N,by simp,rfl⟩
    ·exact ⟨.pointer (some ⟨g,0,none⟩),by simp,rfl⟩
   have tR:=fun g hg=>(hblk g (hin g hg)).2.2
   refine .inr ⟨aS _,⟨out,rfl⟩,[.int .i64 (Int.ofNat m),u1],_,rfl,?_⟩;refine ⟨l,r.fn,_,r.assign,r.body,rfl,run_yield h1 (by simp [hps]),fun F hF=>(Ck F hF m u1 w vs h1 h2 h4 h5 (by omega) DR).mono ?_⟩
   rintro e W' ⟨rfl,rfl⟩
   refine ⟨_,μ,loc,rfl,?_⟩;have Tt:∀b,b≠l→b≠G→(rnd r l G m u1 w).heap[b]? =w.heap[b]? :=fun b=>Ys
   exact {
    ext:=⟨Mu.le.refl _,fun _ _ _ h=> .inl h⟩
    uI:=fun b j x hx=>by
     have MP:b≠l:=fun e=>by rw [e,tR l (.inl rfl) j] at hx;cases hx
     have KW:b≠G:=fun e=>by rw [e,tR G (.inr (.inr (.inl rfl))) j] at hx;cases hx
     rw [fZ (Tt b MP KW) j];exact gp b j x hx
    res:= .inl (by rw [rep])
    obs:=fun id o h=>by
     have hid:=lT h;subst hid;have ho:Ob.lp (out.set m (.eH 1 p))=o:=by simpa [find] using h
     subst ho;refine ⟨_,nQ,fun g hg=> ?_,rfl,rnd_l (eG.1 h1).1,(Tt B YN hBG).trans h2,(Tt D hDl hDG).trans h3,vs.set m u1,rnd_G h4 hGl,by simpa using h5,Cz h6 Cl,fun u hu=> ?_⟩
     ·obtain ⟨k1,k2,k3⟩:=hblk g hg
      exact ⟨k1,by rw [RF];exact k2,k3⟩
     ·rcases nq hu with h|rfl
      ·exact h7 u h
      ·obtain ⟨a,n,c,rfl⟩:=DR;rfl
    apart:=fun i j oi oj hi hj hij=>absurd ((lT hi).trans (lT hj).symm) hij
    keep:=fun b _ hl=>Tt b (fun e=>hl ⟨10000,loc 10000,by simp [jV],hin b (.inl e)⟩) (fun e=>hl ⟨10000,loc 10000,by simp [jV],hin b (.inr (.inr (.inl e)))⟩)
    fix:=fun _ _ _=>rfl
    os:=rfl
    tape:=rfl
    output:=rfl
    grown:=by rw [RF];exact aS _
    drawn:=fun h=>h.elim }
  ·cases hv
 ·cases hv
end Go.Proofs.YthppjmoncapdfaaGreatDoor.cl
set_option maxRecDepth 100000
set_option maxHeartbeats 2000000
namespace Go.Proofs.YthppjmoncapdfaaGreatDoor.cl
open Go Go.AM Go.RowKit
attribute [local go_sem] yp
theorem Z5 (n:Nat) (sl:Value) (h1:sl.oneCell'=true) (w:World):CallsIn Fence.wide n P 54 #[.agg #[sl]] w fun e w'=>e= .returned (.func (.func 82) #[] #[.pointer (some ⟨w.heap.size,0,none⟩)])∧w'=w.alloc (.cells #[sl] 24):=by
 refine ux Tryz.func54 rfl trivial ?_ rfl;simp only [Tryz.ntmps54,mY,bg,eE,Nat.reduceAdd,Nat.reduceSub,pH,pI,pJ,pK,dU,ff]
 gi_wp2
 go_ret
 exact ⟨rfl,rfl⟩
theorem Cu:∀{xs:List (List AV)} {g:List zF},vW xs=some g→xs=(cy.nodes g).map Node.enc
 |[],g,h=>by
  have:g=[]:=(eS h).symm;subst this;rfl
 |[.int .i64 t, .eH 2 av]::xs,g,h=>by
  have h:(match wq av,vW xs with
   |some a,some r=>some ((t,a)::r)
   |_,_=>none)=some g:=h
  split at h
  ·rename_i a r ha hr
   have:=eS h;subst this;rw [Cu hr,EL ha];simp [cy.nodes,cy.GH,Node.enc,PX,cF.enc,kD]
  ·cases h
theorem xw {μ:Mu} {a:AV} {u:Value} (h:rep μ a u):∀n,bV μ (replicate n a) (replicate n u)
 |0=>rfl
 |n+1=>⟨u,_,rfl,h,xw h n⟩
theorem Rb {μ:Mu} {g:List zF} {sl:Value} (h:rep μ (.eH 2 ((cy.nodes g).map Node.enc)) sl):∀x∈g,x.2.length≤9223372036854775807:=by
 intro x hx;obtain ⟨i,hi⟩:=iq.1 hx;rw [rep.eq_def] at h;dsimp only at h;obtain ⟨A,c,rfl,_,_,h0|⟨b,off,_,hrow⟩⟩:=h
 ·have:g=[]:=by simpa [cy.nodes] using h0
  subst this;simp at hx
 ·have hn:((cy.nodes g).map Node.enc)[i]? =some (Node.enc ⟨x.1,cy.GH x.2⟩):=by simp [cy.nodes,hi]
  obtain ⟨vs,⟨hc,_⟩,_⟩:=CA hrow hn;obtain ⟨u0,us,_,_,u1,us',_,h1,_⟩:=hc;rw [rep.eq_def] at h1;dsimp only at h1;obtain ⟨A',c',_,k1,k2,_⟩:=h1;have:(List.map cF.enc (cy.GH x.2)).length=x.2.length:=by simp [cy.GH]
  unfold maxLen at k2;omega
theorem run82 {μ:Mu} {W0:World} {g:List zF} {ps:List (List Int)} {r:Loop} {B G H N:Nat} {sl:Value} (hNg:g.length=N) (h0:0<g.length) (hN:g.length≤1073741824) (hps:yF g=some ps) (gp:HW μ W0) (hH:μ H 0=some sl) (DR:rep μ (.eH 2 ((cy.nodes g).map Node.enc)) sl) (h1:sl.oneCell'=true)
  (Tp:W0.heap[B]? =some (.cells #[.slice (some ⟨G,0,none⟩) N N] 58 (0,0))) (hG0:W0.heap[G]? =some (.cells (replicate N (Value.slice none 0 0)).toArray 60 (0,0))) (hBG:B≠G) (hmB:∀j,μ B j=none) (hmG:∀j,μ G j=none) (hpr:r.params.size=2)
  (Ck:∀F,Wd F→∀(m:Nat) (pv:Value) (W:World) (vs:List Value),W.heap[W0.heap.size+1]? =some (.loop r)→W.heap[B]? =some (.cells #[.slice (some ⟨G,0,none⟩) N N] 58 (0,0))→W.heap[G]? =some (.cells vs.toArray 60 (0,0))→vs.length=N→m<N→(∃a n c,pv= .slice a n c)→
   RoundIn F (0-1) P (W0.heap.size+1) r.fn ((r.params.zip #[.int .i64 m,pv]).foldl (fun t (x,v)=>t.setIfInBounds x v) r.tmps) r.assign r.body W fun e W'=>e= .returned (.bool true)∧W'=rnd r (W0.heap.size+1) G m pv W):
  CallsIn Fence.wide 8 P 82 #[.func (.yield (W0.heap.size+1)) #[] #[], .pointer (some ⟨H,0,none⟩)] ((W0.alloc (.deferred (some []))).alloc (.loop r)) fun e W2=>(∃v,e= .returned v)∧∃μ2:Mu,μ.ext W0.heap.size μ2∧HW μ2 W2∧W2.heap[W0.heap.size+1]? =some (.loop r)∧W2.heap[B]? =some (.cells #[.slice (some ⟨G,0,none⟩) N N] 58 (0,0))∧W2.heap[W0.heap.size]? =some (.deferred (some []))∧
   (∃vs:List Value,W2.heap[G]? =some (.cells vs.toArray 60 (0,0))∧vs.length=N∧ku μ2 (ps.map cy.eP) vs)∧(∀b,b=B∨b=G∨b=W0.heap.size∨b=W0.heap.size+1→∀j,μ2 b j=none)∧(∀b,b<W0.heap.size→b≠B→b≠G→W2.heap[b]? =W0.heap[b]?)∧W2.os=W0.os∧W2.tape=W0.tape∧W2.output=W0.output∧W0.heap.size≤W2.heap.size:=by
 have YN:=(eG.1 Tp).1;have hGl:=(eG.1 hG0).1;obtain ⟨W1,hW1⟩:∃W1,(W0.alloc (.deferred (some []))).alloc (.loop r)=W1:=⟨_,rfl⟩
 have hold:∀k,k<W0.heap.size→W1.heap[k]? =W0.heap[k]? :=fun k hk=>by
  rw [←hW1];exact (jF _ _ k (by simp;omega)).trans (jF _ _ k hk)
 have hs1:W1.heap.size=W0.heap.size+2:=by rw [←hW1];simp
 have hl1:W1.heap[W0.heap.size+1]? =some (.loop r):=by
  rw [←hW1];have:=World.alloc_heap_new (W0.alloc (.deferred (some []))) (.loop r);rwa [World.size_alloc] at this
 have hD1:W1.heap[W0.heap.size]? =some (.deferred (some [])):=by
  rw [←hW1];exact (jF _ _ _ (by simp)).trans (World.alloc_heap_new W0 _)
 have ho:W1.os=W0.os∧W1.tape=W0.tape∧W1.output=W0.output:=by rw [←hW1];exact ⟨rfl,rfl,rfl⟩
 rw [hW1];have I1:HW μ W1:=fun b j x hx=>by
  have h:=gp b j x hx;rw [fZ (hold b (mq h)) j];exact h
 have hm:∀b,b=B∨b=G∨b=W0.heap.size∨b=W0.heap.size+1→∀j,μ b j=none:=by
  rintro b (rfl|rfl|hb|hb) j
  ·exact hmB j
  ·exact hmG j
  all_goals
   cases hx:μ b j with
   |none=>rfl
   |some x=>have:=mq (gp _ _ _ hx);omega
 obtain ⟨us,qW⟩:∃us:List Value,us=[.pointer (some ⟨W0.heap.size+1,0,none⟩), .pointer (some ⟨B,0,none⟩), .slice (some ⟨G,0,none⟩) N N, .pointer (some ⟨W0.heap.size,0,none⟩)]:=⟨_,rfl⟩
 have hin:∀b,jH (.tuple us.toArray) b→b=B∨b=G∨b=W0.heap.size∨b=W0.heap.size+1:=by
  rintro b (h|⟨us',h,u,hu,hb⟩)
  ·cases h
  ·have e:us=us':=by simpa using h
   subst e;rw [qW] at hu;simp only [aD,fF,fW] at hu;rcases hu with rfl|rfl|rfl|rfl
   all_goals
    have hb:=eS hb;simp only at hb;omega
 have hr:cy.Rn 82 [(.cl 2000000 [.r 10000]),(.pv (.ref (FSt.enc ⟨cy.nodes g⟩)))] [(10000,(.lp (replicate g.length (.eH 1 []))))]=some (.mu [],[(10000, .lp (ps.map cy.eP))]):=
  lS cy.zC _ _ (cy.XB h0 hN (Rb DR) hps)
 have hs:=Fp (q:=QL r (W0.heap.size+1) B G W0.heap.size N) (B:=fun _ _=>none) ok (fun f fn c _ _=>mW.none (Tu f) c) (y_ok hpr hBG (by omega) (by omega) (by omega) (by omega) Ck) 82 _ _ _ _ hr W1 μ (fun _=> .tuple us.toArray) [.func (.yield (W0.heap.size+1)) #[] #[], .pointer (some ⟨H,0,none⟩)] (fun _ _ _ h=>by cases h) I1
  (fun id o h=>by
   have hid:=lT h;subst hid;have ho:Ob.lp (replicate g.length (.eH 1 []))=o:=by simpa [find] using h
   subst ho;refine ⟨us,rfl,fun b hb=>⟨.inr ⟨_,by simp [jV],hb⟩,?_,hm b (hin b hb)⟩,qW,hl1,(hold B YN).trans Tp,hD1,_,(hold G hGl).trans hG0,by simp,?_,fun u hu=> ?_⟩
   ·rcases hin b hb with h|h|h|h<;>omega
   ·rw [hNg]
    exact xw (by rw [rep];exact ⟨none,0,rfl,aS _,dh _, .inl rfl⟩) N
   ·rw [(List.mem_replicate.1 hu).2];rfl)
  (fun i j oi oj hi hj hij=>absurd ((lT hi).trans (lT hj).symm) hij)
  ⟨_,_,rfl,⟨[.pointer (some ⟨W0.heap.size+1,0,none⟩)],rfl,_,_,rfl,by rw [qW];rfl,rfl⟩,_,_,rfl,(by
   show rep μ (.ref (FSt.enc ⟨cy.nodes g⟩)) _;rw [rep];refine ⟨H,0,[sl],rfl,⟨sl,[],rfl,DR,rfl⟩,by simpa using h1,fun j u hj=> ?_⟩;cases j with
   |zero=>simp at hj;subst hj;exact hH
   |succ j=>simp at hj),rfl⟩
 rcases hs with ⟨_,_,hC⟩|⟨h,_⟩
 ·refine ((oQ (n:=8)).2 hC).mono ?_
  rintro e W2 ⟨v,μ2,qf,rfl,hP⟩
  have nQ:=hP.fix 10000 (by simp) (by decide);obtain ⟨us2,e2,wC,e3,k1,k2,k3,k4⟩:=hP.obs 10000 _ rfl;rw [nQ] at e2 wC;have hinB:∀b,b=B∨b=G∨b=W0.heap.size∨b=W0.heap.size+1→jH (.tuple us.toArray) b:=by
   intro b hb;refine .inr ⟨us,rfl,?_⟩;rw [qW];rcases hb with rfl|rfl|rfl|rfl
   ·exact ⟨.pointer (some ⟨b,0,none⟩),by simp,rfl⟩
   ·exact ⟨.slice (some ⟨b,0,none⟩) N N,by simp,rfl⟩
   ·exact ⟨.pointer (some ⟨W0.heap.size,0,none⟩),by simp,rfl⟩
   ·exact ⟨.pointer (some ⟨W0.heap.size+1,0,none⟩),by simp,rfl⟩
  refine ⟨⟨v,rfl⟩,μ2,⟨hP.ext.1,fun b j x hx=>(hP.ext.2 b j x hx).imp id fun h=>by omega⟩,hP.uI,k1,k2,k3,k4,fun b hb=>(wC b (hinB b hb)).2.2,fun b hlt n1 n2=>(hP.keep b (by omega) ?_).trans (hold b hlt),hP.os.trans ho.1,hP.tape.trans ho.2.1,hP.output.trans ho.2.2,by have:=hP.grown;omega⟩
  rintro ⟨id,v',h1,h2⟩
  have:v'= .tuple us.toArray:=by
   simp only [jV] at h1;split at h1
   ·exact (eS h1).symm
   ·cases h1
  rw [this] at h2;rcases hin b h2 with h|h|h|h<;>omega
 ·exact absurd h (by decide)
theorem Ii {w:World} {o:Obj} {k:Nat} (h:k=w.heap.size):(w.alloc o).heap[k]? =some o:=by rw [h];exact World.alloc_heap_new w o
theorem mk29 {W:World} {N:Nat} (hN:N≤1073741824):Sem.run P (Instr.makeSlice 58 (.int .i64 (N:Int)) (.int .i64 (N:Int))) W= .ok (.slice (some ⟨W.heap.size,0,none⟩) N N) (W.alloc (.cells (replicate N (Value.slice none 0 0)).toArray 60)):=by
 obtain ⟨i0,hi,XS,hz1,hz2⟩:=info_parts (show (P.info? 60).map (fun i=>(i.zero,i.size,i.bytes))=some (some (.slice none 0 0),1,24) by kernel_rfl);have h:=run_make (P:=P) W 58 60 i0 _ Tryz.underlying58 hi XS .i64 .i64 N N (by omega) (jE _) (by rw [hz2];omega) (by omega);rw [aR,hz1] at h;have e:madeCells (Value.slice none 0 0).cells (N *1)=(replicate N (Value.slice none 0 0)).toArray:=by
  have:=uE #[Value.slice none 0 0] 1 rfl (by decide) N;apply Array.toList_inj.1;rw [show (Value.slice none 0 0).cells= #[Value.slice none 0 0] from rfl,this];simp
 rw [e] at h;exact h
theorem Rv {g:Operand} {ps:Array Tmp} {assign body:Code} {Q:Exit→Act→World→Prop} {a:Act} {w:World} {gf:Nat} {lb:Array Value} (hg:a.eval g= .func (.func gf) #[] lb) (eg:∀args w,(callFunc gf args).run P w= .ok (.enter gf args) w)
  (h:∀fn,CallsIn Fence.wide 8 P gf (#[.func (.yield (w.heap.size+1)) #[] #[]]++lb) ((w.alloc (.deferred (some []))).alloc (.loop { state:= .ready,pending:=none,fn,tmps:=a.tmps,params:=ps,assign,body,defers:=w.heap.size })) (rangePost Fence.wide 9 P (w.heap.size+1) Q { a with defers:=[{ target:= .collected w.heap.size,args:= #[] }]++a.defers })):
  (Code.rangeFunc g ps assign body).wpIn Fence.wide 9 P Q a w:=by
 refine wpIn_rangeFunc ?_;intro fn _;obtain ⟨W1,hW1⟩:∃W1,(w.alloc (.deferred (some []))).alloc (.loop { state:= .ready,pending:=none,fn,tmps:=a.tmps,params:=ps,assign,body,defers:=w.heap.size })=W1:=⟨_,rfl⟩
 refine ⟨w.heap.size+1,[{ target:= .collected w.heap.size,args:= #[] }],W1,{ target:= .fn (.func gf) lb,args:= #[.func (.yield (w.heap.size+1)) #[] #[]] },W1,gf, #[.func (.yield (w.heap.size+1)) #[] #[]]++lb,W1,?_,?_,fun _ _=>trivial,?_,fun _=>by decide,?_⟩
 ·rw [←hW1];exact run_enterLoop_outer _ _ _ _ _
 ·simp only [resolve,hg]
  simp [go_sem]
 ·simp [invoke,go_sem,eg]
 ·rw [←hW1];exact h fn
theorem BR {μ:Mu}:∀{xs:List AV} {vs:List Value},ku μ xs vs→c4 μ 1 (xs.map fun x=>[x]) vs
 |[],vs,h=>h.1
 |x::xs,vs,h=>by
  obtain ⟨⟨u,us,rfl,h1,h2⟩,h3⟩:=h;exact ⟨[u],us,rfl,⟨⟨u,[],rfl,h1,rfl⟩,fun v hv=>h3 v (by simp at hv;simp [hv])⟩,rfl,BR ⟨h2,fun v hv=>h3 v (by simp [hv])⟩⟩
theorem Tg {μ μ1 μ2:Mu} {loc:Nat→Value} {w W0 W2 W4:World} {N:Nat} {ps:List (List Int)} {vs:List Value} (hle:μ.le μ1) (hx:∀b j x,μ1 b j=some x→μ b j=some x∨w.heap.size≤b) (hs0:w.heap.size+4≤W0.heap.size) (hold:∀k,k<w.heap.size→W0.heap[k]? =w.heap[k]?) (ho:W0.os=w.os∧W0.tape=w.tape∧W0.output=w.output)
  (KX:μ1.ext W0.heap.size μ2) (aaj:HW μ2 W2) (k4:W2.heap[w.heap.size+1]? =some (.cells vs.toArray 60 (0,0))) (k5:vs.length=N) (k6:ku μ2 (ps.map cy.eP) vs) (hm2:∀b,b=w.heap.size+1+1∨b=w.heap.size+1∨b=W0.heap.size∨b=W0.heap.size+1→∀j,μ2 b j=none)
  (hk:∀b,b<W0.heap.size→b≠w.heap.size+1+1→b≠w.heap.size+1→W2.heap[b]? =W0.heap[b]?) (ho2:W2.os=W0.os) (ht2:W2.tape=W0.tape) (aah:W2.output=W0.output) (hgr:W0.heap.size≤W2.heap.size)
  (h4:∀b,b≠W0.heap.size+1→b≠W0.heap.size→W4.heap[b]? =W2.heap[b]?) (hz:W4.heap.size=W2.heap.size) (e1:W4.os=W2.os) (e2:W4.tape=W2.tape) (e3:W4.output=W2.output) (hN:N≤maxLen):
  ∃μ3,gd False μ loc [] (.eH 1 (ps.map fun p=>[.eH 1 (p.map fun n=>[.int .i64 n])])) [] w (.slice (some ⟨w.heap.size+1,0,none⟩) N N) μ3 loc W4:=by
 obtain ⟨μ3,hμ3⟩:∃μ3:Mu,μ3=fun b j=>if b=w.heap.size+1 then vs[j]? else μ2 b j:=⟨_,rfl⟩
 have hle3:μ2.le μ3:=fun b j x h=>by
  rw [hμ3];dsimp only;rw [ak (fun e=>by rw [e,hm2 _ (.inr (.inl rfl)) j] at h;cases h)];exact h
 have hl:ps.length=N:=by have:=n9 k6.1;simp at this;omega
 refine ⟨μ3,?_⟩
 exact {
  ext:=⟨(hle.trans KX.1).trans hle3,fun b j x h=>by
   rw [hμ3] at h;dsimp only at h;split at h
   ·right;omega
   ·rcases KX.2 b j x h with h|h
    ·exact hx b j x h
    ·right;omega⟩
  uI:=fun b j x h=>by
   rw [hμ3] at h;dsimp only at h;split at h
   ·rename_i e
    subst e;have hb:=(h4 (w.heap.size+1) (by omega) (by omega)).trans k4;have h1:=k6.2 x (aT h);simp [EH,hb,h,h1]
   ·have hn1:b≠W0.heap.size+1:=fun e=>by rw [hm2 b (.inr (.inr (.inr e))) j] at h;cases h
    have hn2:b≠W0.heap.size:=fun e=>by rw [hm2 b (.inr (.inr (.inl e))) j] at h;cases h
    rw [fZ (h4 b hn1 hn2) j];exact aaj b j x h
  res:= .inl (by
   rw [rep];refine ⟨_,N,by simp [hl],by simp [hl],hN, .inr ⟨w.heap.size+1,0,rfl,tV (μ:=μ2) (vs:=vs) ?_ hle3 fun j u hu=> ?_⟩⟩
   ·have:=BR k6
    rw [eO] at this;exact this
   ·rw [hμ3];dsimp only
    rw [au rfl,gE];exact hu)
  obs:=fun id o h=>by cases h
  apart:=fun i j oi oj h=>by cases h
  keep:=fun b hlt _=>((h4 b (by omega) (by omega)).trans (hk b (by omega) (by omega) (by omega))).trans (hold b hlt)
  fix:=fun id h=>by cases h
  os:=(e1.trans ho2).trans ho.1
  tape:=(e2.trans ht2).trans ho.2.1
  output:=(e3.trans aah).trans ho.2.2
  grown:=by omega
  drawn:=fun h=>h.elim }
theorem first29 {μ:Mu} {loc:Nat→Value} {w:World} {xs:List (List AV)} {g:List zF} {ps:List (List Int)} {u:Value} (gp:HW μ w) (hg:vW xs=some g) (h0:0<g.length) (hN:g.length≤1073741824) (hps:yF g=some ps) (hu:rep μ (.agg [.eH 2 xs]) u):
  Calls P 29 #[u] w fun e w'=>∃v μ' loc',e= .returned v∧gd False μ loc [] (.eH 1 (ps.map fun p=>[.eH 1 (p.map fun n=>[.int .i64 n])])) [] w v μ' loc' w':=by
 obtain ⟨N,hNl⟩:∃N,xs.length=N:=⟨_,rfl⟩
 have hN':N≤1073741824:=by
  rw [←hNl,Cu hg];simpa [cy.nodes] using hN
 rw [rep.eq_def] at hu;dsimp only at hu;obtain ⟨vs,rfl,⟨sl,vs',rfl,DR,aan⟩,h1⟩:=hu;have:vs'=[]:=aan;subst this;have hsl':=DR;rw [rep.eq_def] at hsl';dsimp only at hsl';obtain ⟨A,c,rfl,hc1,Pb,hA⟩:=hsl';refine (oQ (n:=9)).1 ?_;have hf1:Fence.wide.fn 54:=trivial;have hf2:Fence.wide.fn 82:=trivial;have hn:1≤9:=by decide
 refine callsIn_of_wp_marks Tryz.func29 rfl trivial ?_ rfl;simp only [Tryz.ntmps29,mY,bg,eE,Nat.reduceAdd,Nat.reduceSub,pH,pI,pJ,pK,dU,ff];rw [hNl] at DR h1⊢;have hmk:=fun W=>mk29 (W:=W) hN'
 gi_wp2_with (gi_at_call 54;refine (Z5 8 _ rfl _).mono ?_;rintro e w1 ⟨rfl,rfl⟩)
 obtain ⟨W0,hW0⟩:∃W0,((((w.alloc (Obj.cells #[Value.slice A N c] 24)).alloc (Obj.cells (Array.replicate N (Value.slice none 0 0)) 60)).alloc (Obj.cells #[Value.slice (some ⟨w.heap.size+1,0,none⟩) N N] 58)).alloc (Obj.cells #[Value.slice A N c] 24))=W0:=⟨_,rfl⟩
 rw [hW0];have hs0:w.heap.size+4≤W0.heap.size:=by rw [←hW0];simp
 have hold:∀k,k<w.heap.size→W0.heap[k]? =w.heap[k]? :=fun k hk=>by
  rw [←hW0];exact (jF _ _ k (by simp;omega)).trans ((jF _ _ k (by simp;omega)).trans ((jF _ _ k (by simp;omega)).trans (jF _ _ k hk)))
 have hG0:W0.heap[w.heap.size+1]? =some (.cells (replicate N (Value.slice none 0 0)).toArray 60 (0,0)):=by
  rw [←hW0];exact (jF _ _ _ (by simp)).trans ((jF _ _ _ (by simp)).trans ((Ii (by simp)).trans (by simp)))
 have Tp:W0.heap[w.heap.size+1+1]? =some (.cells #[.slice (some ⟨w.heap.size+1,0,none⟩) N N] 58 (0,0)):=by
  rw [←hW0];exact (jF _ _ _ (by simp)).trans (Ii (by simp))
 have hH0:W0.heap[w.heap.size+1+1+1]? =some (.cells #[.slice A N c] 24 (0,0)):=by
  rw [←hW0];exact Ii (by simp)
 have ho:W0.os=w.os∧W0.tape=w.tape∧W0.output=w.output:=by rw [←hW0];exact ⟨rfl,rfl,rfl⟩
 clear hW0;have tR:∀b,w.heap.size≤b→∀j,μ b j=none:=fun b hb j=>by
  cases hx:μ b j with
  |none=>rfl
  |some x=>have:=mq (gp _ _ _ hx);omega
 obtain ⟨μ1,aap⟩:∃μ1:Mu,μ1=fun b j=>if b=w.heap.size+1+1+1∧j=0 then some (.slice A N c) else μ b j:=⟨_,rfl⟩
 have hle:μ.le μ1:=fun b j x hx=>by
  have:=mq (gp _ _ _ hx);rw [aap];dsimp only;rw [ak (by omega)];exact hx
 have I1:HW μ1 W0:=fun b j x hx=>by
  rw [aap] at hx;dsimp only at hx;split at hx
  ·rename_i h
   obtain ⟨rfl,rfl⟩:=h;rw [←hx];simp [EH,hH0,Value.oneCell']
  ·have h:=gp b j x hx
   rw [fZ (hold b (mq h)) j];exact h
 have Vy:∀b,w.heap.size≤b→b≠w.heap.size+1+1+1→∀j,μ1 b j=none:=fun b hb hne j=>by
  rw [aap];dsimp only;rw [ak (by omega)];exact tR b hb j
 have hx:∀b j x,μ1 b j=some x→μ b j=some x∨w.heap.size≤b:=fun b j x hx=>by
  rw [aap] at hx;dsimp only at hx;split at hx
  ·right;omega
  ·exact .inl hx
 have hxs:=Cu hg;have hgN:g.length=N:=by rw [←hNl,hxs];simp [cy.nodes]
 refine Rv (gf:=82) (lb:= #[.pointer (some ⟨w.heap.size+1+1+1,0,none⟩)]) rfl (enters_of Tryz.func82 (by kernel_rfl) rfl) fun fn=> ?_
 refine (run82 (μ:=μ1) (g:=g) (ps:=ps) (B:=w.heap.size+1+1) (G:=w.heap.size+1) (H:=w.heap.size+1+1+1) (N:=N) (sl:= .slice A N c) hgN h0 hN hps I1 (by rw [aap];simp) (by rw [←hxs];exact vt hle _ _ DR) rfl Tp hG0 (by omega) (Vy _ (by omega) (by omega)) (Vy _ (by omega) (by omega)) rfl ?Ck).mono ?_
 case Ck=>
  intro F hF m pv W vs hl hB hG hvl hm hpv;obtain ⟨a',n',c',rfl⟩:=hpv;have YN:w.heap.size+1+1≠W0.heap.size+1:=by omega
  have hGl:w.heap.size+1≠W0.heap.size+1:=by omega
  refine roundIn_of_wpIn (hF.fn _) ?_
  gi_wp2
  refine ⟨_,run_beginRound hl rfl,?_⟩;have hB2:∀o,(W.putObj (W0.heap.size+1) o).cell? ⟨w.heap.size+1+1,0,none⟩=some (.slice (some ⟨w.heap.size+1,0,none⟩) N N):=fun o=>by
   have:=(World.putObj_heap_other (w:=W) (o:=o) YN).trans hB;simp [World.cell?,this]
  have hG1:∀o,(W.putObj (W0.heap.size+1) o).heap[w.heap.size+1]? =some (.cells vs.toArray 60 (0,0)):=fun o=>(World.putObj_heap_other (w:=W) (o:=o) hGl).trans hG
  have hG2:∀o,(W.putObj (W0.heap.size+1) o).cell? ⟨w.heap.size+1,m,none⟩=some (vs[m]'(by omega)):=fun o=>by
   simp only [World.cell?,hG1 o];simp [show m<vs.length by omega]
  have hG3:∀o,(W.putObj (W0.heap.size+1) o).frozen? ⟨w.heap.size+1,m,none⟩=false:=fun o=>by
   simp only [World.frozen?,hG1 o];simp
  gi_wp2
  exact ⟨_,_,run_endRound none ((Below.heap_setCell _ _ _ _ (fun e=>hGl e.symm)).trans (World.putObj_heap_same (eG.1 hl).1)),rfl,rfl⟩
 rintro e W2 ⟨⟨v,rfl⟩,μ2,KX,aaj,k1,k2,k3,⟨vs,k4,k5,k6⟩,hm2,hk,ho2,ht2,aah,hgr⟩
 refine ⟨none,_,run_endLoop k1 (by simp),?_⟩;have c3:∀o,(W2.putObj (W0.heap.size+1) o).cell? ⟨w.heap.size+1+1,0,none⟩=some (.slice (some ⟨w.heap.size+1,0,none⟩) N N):=fun o=>by
  have:=(World.putObj_heap_other (w:=W2) (o:=o) (show w.heap.size+1+1≠W0.heap.size+1 by omega)).trans k2;simp [World.cell?,this]
 gi_wp2
 refine ⟨by simp, .inl ⟨_,_,rfl,run_takeDeferred ((World.putObj_heap_other (by omega)).trans k3),?_⟩⟩;refine ⟨_,results_tmp rfl _ _ _,?_⟩;obtain ⟨μ3,h3⟩:=Tg (loc:=loc) hle hx hs0 hold ho KX aaj k4 k5 k6 hm2 hk ho2 ht2 aah hgr (fun b h1 h2=>(World.putObj_heap_other h2).trans (World.putObj_heap_other h1)) (by simp [World.putObj]) rfl rfl rfl (by unfold maxLen;omega);exact ⟨_,μ3,loc,rfl,h3⟩
end Go.Proofs.YthppjmoncapdfaaGreatDoor.cl
namespace Go.Proofs.YthppjmoncapdfaaGreatDoor.cl
open Go Go.AM Go.RowKit
theorem LZ:∀{xs:List (List AV)} {l:List (List UInt8)},strs xs=some l→xs=l.map jG:=by
 intro xs
 induction xs with
 |nil=>intro l h;simp [strs] at h;subst h;rfl
 |cons c xs ih=>
  intro l h;unfold strs at h;split at h
  ·rename_i e;cases e
  ·rename_i s l' e
   injection e with e1 e2
   subst e1 e2;simp only [bS] at h;obtain ⟨m,hm,rfl⟩:=h;rw [ih hm];rfl
  ·cases h
theorem QB (sep:List UInt8):∀l:List (List UInt8),sd sep l=Lib.join l sep:=by
 intro l;cases l with
 |nil=>rfl
 |cons x l=>
  rw [Lib.join_cons]
  induction l generalizing x with
  |nil=>simp [sd,Lib.joinTail]
  |cons y l ih=>
   simp only [sd,ih y,Lib.joinTail,aP,rE,fe]
theorem Hw {μ:Mu} {loc:Nat→Value} {w w':World} {r:AV} {v:Value} (hp:HW μ w) (hb:Below w.heap.size w w') (hr:rep μ r v):gd False μ loc [] r [] w v μ loc w' where
 ext:=⟨Mu.le.refl _,fun _ _ _ h=> .inl h⟩
 uI:=fun b j x hx=>by
  have h:=hp b j x hx;rw [fZ (hb.block b (mq h)) j];exact h
 res:= .inl hr
 obs:=fun id o h=>by cases h
 apart:=fun i j oi oj h=>by cases h
 keep:=fun b hlt _=>hb.block b hlt
 fix:=fun id h=>by cases h
 os:=hb.os
 tape:=hb.tape
 output:=hb.output
 grown:=hb.size
 drawn:=fun h=>h.elim
def acE:Mu:=fun b j=>if b=0∧j<64 then some (.int .u8 (Lib.deBruijn64tab.getD j 0)) else none
theorem WS:∀(k n:Nat),tz k n=Lib.ctzFrom k n
 |0,_=>rfl
 |k+1,n=>by
  rw [tz,Lib.ctzFrom,WS k];by_cases h:n % 2=1
  ·simp [h]
  ·have hb:Nat.beq (n % 2) 1=false:=by
    cases hb:Nat.beq (n % 2) 1 with
    |false=>rfl
    |true=>exact absurd (gF hb) h
   rw [ak h,hb];rfl
theorem tz_ctz (n:Nat):tz 64 n=Lib.ctz 64 n:=by
 rw [WS,Lib.ctz];split
 ·rename_i h;subst h;decide
 ·rfl
theorem jf {n0:Nat} {L:sq} {μ:Mu} {loc:Nat→Value} {w:World} {id e sz:Nat} {xs:List (List AV)} (h:mE n0 L μ loc w id (.row e sz xs)):fM (loc id)=loc id:=by
 obtain ⟨vs,hown,_⟩:=h;rcases hown.2 with ⟨e1,_⟩|⟨g,cap,cur,e1,_⟩
 ·rw [e1];rfl
 ·rw [e1];rfl
theorem acq:ga False acE P Wo:=by
 intro g args cD r gm hv w μ loc us hB gp yG hap qW;unfold Wo at hv;split at hv
 ·rename_i xs sep
  split at hv
  ·rename_i l hl
   obtain ⟨hb,hv⟩:=bU hv;simp only [aF] at hb;have h1:=cV hb.1;have h2:=cV hb.2;simp only [aG,br] at hv;obtain ⟨rfl,rfl⟩:=hv;have hxs:=LZ hl;subst hxs;obtain ⟨u0,UO,rfl,E1,yI⟩:=qW;obtain ⟨u1,us2,rfl,hu1,Tv⟩:=yI;have:us2=[]:=Tv;subst this;have E4:rep μ (.eH 1 (l.map jG)) u0:=E1;have Cl:rep μ (.str sep) u1:=hu1;rw [rep.eq_def] at E4;rw [rep.eq_def] at Cl;dsimp only at E4 Cl;subst Cl;obtain ⟨A,c,rfl,hc1,Pb,hA⟩:=E4;refine .inl ⟨by decide,fun w2=>mJ Tryz.func128 (by decide) (by rfl) _ w2,?_⟩
   ·rcases hA with h0|⟨b,off,rfl,hrow⟩
    ·have hl0:l=[]:=by simpa using h0
     subst hl0;refine (Tryz.strings_Join_none A c ⟨sep.toArray⟩ w).mono ?_
     rintro e w' ⟨rfl,rfl⟩
     exact ⟨_,μ,loc,rfl,Hw gp (jo _ _) (by rw [rep];rfl)⟩
    ·cases IY:l with
     |nil=>
      subst IY;refine (Tryz.strings_Join_none (some ⟨b,off,none⟩) c ⟨sep.toArray⟩ w).mono ?_
      rintro e w' ⟨rfl,rfl⟩
      exact ⟨_,μ,loc,rfl,Hw gp (jo _ _) (by rw [rep];rfl)⟩
     |cons x0 l0=>
      rw [←IY];have hcell:∀(j:Nat) s,l[j]? =some s→μ b (off+j)=some (.string ⟨s.toArray⟩):=by
       intro j s hs;obtain ⟨vs,k1,k2,k3⟩:=CA hrow (i:=j) (x:=jG s) (by simp [hs]);have k1':=k1.1;simp only [jG,bV] at k1';obtain ⟨u,us,rfl,hu,rfl⟩:=k1';rw [rep] at hu;subst hu;have:=k3 0 _ rfl;simpa using this
      have hlt:b<w.heap.size:=mq (gp _ _ _ (hcell 0 x0 (by simp [IY])));have e1:(l.map fun s=>(⟨s.toArray⟩:ByteArray)).map (·.data.toList)=l:=by
       rw [eO];simp [kD]
      have:=Tryz.strings_Join b off c (l.map fun s=>⟨s.toArray⟩) ⟨sep.toArray⟩ w (fun j x hx=>by
       simp only [cZ,bS] at hx;obtain ⟨s,hs,rfl⟩:=hx
       exact tD (gp _ _ _ (hcell j s hs)) rfl) hlt (by simpa using h2) (by simpa using hc1) (by rw [e1,←QB];exact h1)
      rw [e1,←QB,aW] at this;rw [aW];refine this.mono ?_
      rintro e w' ⟨rfl,hbw⟩
      exact ⟨_,μ,loc,rfl,Hw gp hbw (by rw [rep])⟩
  ·cases hv
 ·rename_i n
  split at hv
  ·rename_i m
   obtain ⟨hb,hv⟩:=bU hv;have hm:m<18446744073709551616:=by simpa [cr] using hb
   simp only [aG,br] at hv;obtain ⟨rfl,rfl⟩:=hv;obtain ⟨u0,UO,rfl,E1,yI⟩:=qW;have:UO=[]:=yI;subst this;have E4:rep μ (.int .u64 (Int.ofNat m)) u0:=E1;rw [rep] at E4;subst E4;refine .inl ⟨by decide,fun w2=>mJ Tryz.func186 (by decide) (by rfl) _ w2,?_⟩;have htab:TabAt 0 Lib.deBruijn64tab w:=by
    intro j hj;have hj64:j<64:=hj;exact tD (gp 0 j _ (hB 0 j _ (by simp only [acE];rw [au ⟨trivial,hj64⟩]))) rfl
   refine (Any7.bits_TrailingZeros64 Tryz.lays29 m hm w (fun _=>htab)).mono ?_
   rintro e w' ⟨rfl,rfl⟩
   exact ⟨_,μ,loc,rfl,Hw gp (jo _ _) (by rw [rep,tz_ctz])⟩
  ·cases hv
 ·rename_i xs
  split at hv
  ·rename_i l hl
   obtain ⟨hb,hv⟩:=bU hv;simp only [aG,br] at hv;obtain ⟨rfl,rfl⟩:=hv;have hxs:=LZ hl;subst hxs;obtain ⟨u0,UO,rfl,E1,yI⟩:=qW;have:UO=[]:=yI;subst this;have E4:u0=loc 10000:=(show u0=fM (loc 10000) from E1).trans (jf (yG 10000 _ rfl));subst E4;exact .inl ⟨by decide,fun w2=>mJ Tryz.func180 (by decide) (by rfl) _ w2,sort80 (cV hb) gp (yG 10000 _ rfl)⟩
  ·cases hv
 ·rename_i xs
  obtain ⟨hb,hv⟩:=bU hv;simp only [aG,br] at hv;obtain ⟨rfl,rfl⟩:=hv;obtain ⟨u0,UO,rfl,E1,yI⟩:=qW;have:UO=[]:=yI;subst this;exact .inl ⟨by decide,fun w2=>mJ Tryz.func57 (by decide) (by rfl) _ w2,Vf (q:=False) (fun h=>h) gp E1 (cV hb)⟩
 ·cases hv
theorem Wp:ga False acE P fk:=by
 intro g args cD r gm hv w μ loc us hB gp yG hap qW;unfold fk at hv;split at hv
 ·rename_i xs
  split at hv
  ·rename_i l hl
   obtain ⟨hb,hv⟩:=bU hv;simp only [aF] at hb;simp only [aG,br] at hv;obtain ⟨rfl,rfl⟩:=hv;obtain ⟨hxs,hlt⟩:=Xy hl;subst hxs;obtain ⟨u0,UO,rfl,E1,yI⟩:=qW;obtain ⟨u1,us2,rfl,hu1,Tv⟩:=yI;have:us2=[]:=Tv;subst this;have E4:u0=loc 10000:=(show u0=fM (loc 10000) from E1).trans (jf (yG 10000 _ rfl));subst E4;have Cl:rep μ (.fn 131 []) u1:=hu1;rw [rep.eq_def] at Cl;dsimp only at Cl;obtain ⟨vs,rfl,hvs⟩:=Cl;have:vs=[]:=hvs;subst this;have h:=acA (S:=SKc) (l:=l) Tryz.laysF6 Tryz.isAgg112 Tryz.sizeOf112 (cV hb.2) (by rw [Y5];exact UF hb.1) hlt gp (yG 10000 _ rfl);rw [Y5] at h;exact .inl ⟨by decide,fun w2=>mJ Tryz.func130 (by decide) (by rfl) _ w2,h⟩
  ·cases hv
 ·rename_i xs
  obtain ⟨hb,hv⟩:=bU hv;simp only [aG,br] at hv;obtain ⟨rfl,rfl⟩:=hv;obtain ⟨u0,UO,rfl,E1,yI⟩:=qW;have:UO=[]:=yI;subst this;exact .inl ⟨by decide,fun w2=>mJ Tryz.func74 (by decide) (by rfl) _ w2,clone74 (q:=False) (fun h=>h) gp E1 (cV hb)⟩
 ·rename_i xs
  split at hv
  ·rename_i l hl
   obtain ⟨hb,hv⟩:=bU hv;simp only [aF] at hb;simp only [aG,br] at hv;obtain ⟨rfl,rfl⟩:=hv;obtain ⟨u0,UO,rfl,E1,yI⟩:=qW;obtain ⟨u1,us2,rfl,hu1,Tv⟩:=yI;have:us2=[]:=Tv;subst this;have Cl:rep μ (.fn 167 []) u1:=hu1;rw [rep.eq_def] at Cl;dsimp only at Cl;obtain ⟨vs,rfl,hvs⟩:=Cl;have:vs=[]:=hvs;subst this;exact .inl ⟨by decide,fun w2=>mJ Tryz.func165 (by decide) (by rfl) _ w2,Yu gp hl hb.1 (cV hb.2) E1⟩
  ·cases hv
 ·rename_i n
  split at hv
  ·rename_i m
   obtain ⟨hb,hv⟩:=bU hv;simp only [aG,br] at hv;obtain ⟨rfl,rfl⟩:=hv;exact itoa_ok 83 _ [] _ [] (aaA (cV hb)) w μ loc us (fun _ _ _ h=>by cases h) gp yG hap qW
  ·cases hv
 ·rename_i xs
  split at hv
  ·rename_i g hg
   obtain ⟨hb,hv⟩:=bU hv;simp only [aF] at hb;obtain ⟨ps,hps,hv⟩:=bS.1 hv;simp only [br] at hv;obtain ⟨rfl,rfl⟩:=hv;obtain ⟨u0,UO,rfl,E1,yI⟩:=qW;have:UO=[]:=yI;subst this;exact .inl ⟨by decide,fun w2=>mJ Tryz.func29 (by decide) (by rfl) _ w2,first29 gp hg (cV hb.1) (cV hb.2) hps E1⟩
  ·cases hv
 ·exact acq g args cD r gm hv w μ loc us hB gp yG hap qW
end Go.Proofs.YthppjmoncapdfaaGreatDoor.cl
namespace Go.AM
open Go.RowKit
section
variable {P:Program} {N:Nat} {w0:World} {μ0 μ μ':Mu} {L:sq} {loc loc':Nat→Value} {st st' st1:St} {a a':Act} {w w':World}
theorem Oper.YH {F:Fence} {n:Nat} {o:Oper} {K K':Act→World→Prop} {Q Q':Exit→Act→World→Prop} {i:Nat} (hd:o.dst≠some i) (h:o.wpIn F n P a w K Q) (hK:∀a' w',a'.tmps[i]? =a.tmps[i]? →K a' w'→K' a' w')
  (hQ:∀ch w',Q (.panic ch) a w'→Q' (.panic ch) a w') (hL:LetsOut Q→LetsOut Q'):o.wpIn F n P a w K' Q':=by
 have put:∀v,(a.put o.dst v).tmps[i]? =a.tmps[i]? :=by
  intro v;unfold Act.put;split
  ·rename_i d hd'
   rw [hd'] at hd;have:d≠i:=fun e=>hd (by rw [e])
   simp [uy,this]
  ·rfl
 refine ⟨h.1,?_⟩;have h:=h.2;generalize (o.semAt F.round a.eval).run P w=r at h⊢;unfold Oper.uponIn at h⊢;split at h
 ·exact hK _ _ (put _) h
 ·exact hK _ _ (put _) h
 ·rename_i d w'
  refine hK _ _ ?_ h;have:=put;unfold Act.put;split
  ·rename_i e hd'
   rw [hd'] at hd;have:e≠i:=fun h=>hd (by rw [h])
   simp [uy,this]
  ·rfl
 ·refine ⟨h.1,h.2.mono ?_⟩
  intro e w2 h2;cases e with
  |returned v=>exact hK _ _ (put _) h2
  |panicked ch=>exact hQ _ _ h2
  |outgrown=>exact hL h2
 ·exact ⟨h.1,h.2.mono fun v w2 h2=>hK _ _ (put _) h2⟩
 ·refine ⟨h.1,h.2.mono ?_⟩
  intro e w2 h2;cases e with
  |returned v=>exact hK _ _ (put _) h2
  |panicked ch=>exact hQ _ _ h2
  |outgrown=>exact hL h2
 ·exact hQ _ _ h
 ·exact h.elim
theorem R5 {F:Fence} {n:Nat} {ops:Array Oper} {Q:Exit→Act→World→Prop} {i:Nat} {x:Option Value}:∀(l:List Oper) (a:Act) (w:World),(∀o∈l,o.dst≠some i)→a.tmps[i]? =x→wpListIn F n P ops Q l a w→
  wpListIn F n P ops (fun e a' w'=>Q e a' w'∧(e= .normal→a'.tmps[i]? =x)) l a w:=by
 have hL:LetsOut Q→LetsOut (fun e a' w'=>Q e a' w'∧(e= .normal→a'.tmps[i]? =x)):=fun ⟨a,w,h⟩=>⟨a,w,h,fun e=>by cases e⟩
 intro l
 induction l with
 |nil=>intro a w _ hx h;exact ⟨h,fun _=>hx⟩
 |cons o l ih=>
  intro a w hd hx h;have hd0:=hd o (by simp);unfold wpListIn at h⊢;split at h
  ·rename_i hw
   rw [au hw];exact Oper.YH hd0 h (fun a' w' e hk=>ih a' w' (fun o ho=>hd o (by simp [ho])) (e.trans hx) hk) (fun ch w' hq=>⟨hq,fun e=>by cases e⟩) hL
  ·rename_i hw
   rw [ak hw];refine ⟨h.1,ih _ _ (fun o ho=>hd o (by simp [ho])) ?_ h.2⟩;rw [←hx];unfold Act.put;split
   ·rename_i d hd'
    rw [hd'] at hd0;have:d≠i:=fun e=>hd0 (by rw [e])
    simp [uy,this]
   ·rfl
def N0 (ob:Nat→Option Ob) (loc:Nat→Value) (q:Qp):sq:=⟨fun id=>if (ob id).isSome=true then some (loc id) else none,q⟩
theorem xB {ob:Nat→Option Ob} {loc:Nat→Value} {q:Qp} {id:Nat} {v:Value} (h:(N0 ob loc q) id=some v):(∃o,ob id=some o)∧v=loc id:=by
 have h':(if (ob id).isSome=true then some (loc id) else none)=some v:=h;split at h'
 ·rename_i hs
  injection h' with h'
  exact ⟨kA.1 hs,h'.symm⟩
 ·cases h'
theorem Wy {ob:Nat→Option Ob} {loc:Nat→Value} {q:Qp} {id:Nat} {o:Ob} (h:ob id=some o):(N0 ob loc q) id=some (loc id):=by
 show (if (ob id).isSome=true then some (loc id) else none)=_;rw [h];rfl
theorem mE.own {n0 n1:Nat} {L1:sq} {id:Nat} {o:Ob} (h:mE n0 L μ loc w id o) (hm:∀k e s ks vs,o≠ .mr k e s ks vs) (ho:∀b,jH (loc id) b→Fh n1 L1 id b) (hq:L1.q=L.q:=by rfl):mE n1 L1 μ loc w id o:=by
 cases o with
 |box t cells=>
  obtain ⟨b,vs,hl,_,rest⟩:=h;exact ⟨b,vs,hl,ho b (by rw [hl];exact qy.2 rfl),rest⟩
 |row e sz xs=>
  obtain ⟨vs,hw,hrc,hg⟩:=h;exact ⟨vs,hw,hrc,fun g hgin=>⟨ho g hgin,(hg g hgin).2⟩⟩
 |mp k e ks es=>
  obtain ⟨b,cN,clock,hl,_,rest⟩:=h;exact ⟨b,cN,clock,hl,ho b (by rw [hl];exact uC.2 rfl),rest⟩
 |mr k e sz ks vs=>exact absurd rfl (hm k e sz ks vs)
 |it s pos=>
  obtain ⟨b,hl,_,rest⟩:=h;exact ⟨b,hl,ho b (by rw [hl];exact qy.2 rfl),rest⟩
 |lp xs=>
  obtain ⟨us,hl,h1,h2⟩:=h;exact ⟨us,hl,fun g hg=>⟨ho g hg,(h1 g hg).2⟩,by rw [hq];exact h2⟩
 |rn e sz k e' sz' xs ys=>
  obtain ⟨m,us,vs,hl,hm',hown,hrc,hk,h2,h3,h4,rest⟩:=h;refine ⟨m,us,vs,hl,fun g hg=>⟨ho g (by rw [hl];exact jZ.2 (.inl hg)),(hm' g hg).2⟩,hown,hrc,hk,h2,h3,fun i zs hi=> ?_,rest⟩;obtain ⟨u,cells,k1,k2,k3,k4,k5⟩:=h4 i zs hi;exact ⟨u,cells,k1,k2,k3,k4,fun g hg=>⟨ho g (by rw [hl];exact jZ.2 (.inr ⟨u,aT k1,hg⟩)),(k5 g hg).2⟩⟩
theorem Rel.re (hR:Rel N w0 μ0 L μ loc st a w) (hs:a'.tmps.size=N) (hd:a'.defers=[]) (he:∀i sv,st1.env i=some sv→∃v,a'.tmps[i]? =some v∧gy μ loc sv v) (ho:∀id o,st1.ob id=some o→st.ob id=some o):Rel N w0 μ0 L μ loc st1 a' w:=
 ⟨hR.small,hR.names,hR.fix,hs,hd,he,hR.uI,hR.base,fun id o h=>hR.obs id o (ho id o h),fun i j oi oj hi hj=>hR.apart i j oi oj (ho i oi hi) (ho j oj hj),hR.keep,hR.os,hR.tape,hR.output,hR.grown,hR.drawn⟩
theorem Rel.sub (hR:Rel N w0 μ0 L μ loc st a w) (he:∀i sv,st1.env i=some sv→st.env i=some sv) (ho:∀id o,st1.ob id=some o→st.ob id=some o):Rel N w0 μ0 L μ loc st1 a w:=
 hR.re hR.size hR.defers (fun i sv h=>hR.env i sv (he i sv h)) ho
theorem Rel.into (hR:Rel N w0 μ0 L μ loc st a w) (h1:∀id o,st.ob id=some o→10000≤id∧∀k e s ks vs,o≠ .mr k e s ks vs):Rel N w μ (N0 st.ob loc L.q) μ loc st a w:=by
 refine ⟨hR.small,fun id h=> ?_,fun id v h _=>(xB h).2.symm,hR.size,hR.defers,hR.env,hR.uI,⟨Mu.le.refl _,fun _ _ _ h=> .inl h⟩,fun id o h=> ?_,hR.apart,fun _ _ _=>rfl,rfl,rfl,rfl,aS _,fun _=>aS _⟩
 ·cases hs:(N0 st.ob loc L.q) id with
  |none=>rfl
  |some v=>
   obtain ⟨⟨o,ho⟩,_⟩:=xB hs;have:=(h1 id o ho).1;omega
 ·exact (hR.obs id o h).own (h1 id o h).2 fun b hb=> .inr ⟨loc id,Wy h,hb⟩
theorem Rel.back (hR:Rel N w0 μ0 L μ loc st a w) (z6:Rel N w μ (N0 st.ob loc L.q) μ' loc' st' a' w') {names:List Nat} (hn:∀id,(st.ob id).isSome=true↔id∈names)
  (ho:∀id o,st'.ob id=some o→id∈names∧o.closed names=true∧o.tL (fun i=>i)=o) (he:∀i sv,st'.env i=some sv→sv.closed names=true∧sv.tL (fun i=>i)=sv):
  (∃qf,Rel N w0 μ0 L μ' qf st' a' w'∧∀id o,st'.ob id=some o→∀g,jH (qf id) g→w.heap.size≤g∨∃id' o',st.ob id'=some o'∧jH (loc id') g)∧(∀b,b<w.heap.size→(∀id o,st.ob id=some o→¬jH (loc id) b)→w'.heap[b]? =w.heap[b]?):=by
 have hown:∀id o,st.ob id=some o→∀b,jH (loc id) b→Fh w0.heap.size L id b:=fun id o h b hb=>((hR.obs id o h).block b hb).1
 have zf:∀b,LB (N0 st.ob loc L.q) b→∃id o,st.ob id=some o∧jH (loc id) b:=by
  rintro b ⟨id,v,h,hb⟩
  obtain ⟨⟨o,h1⟩,rfl⟩:=xB h;exact ⟨id,o,h1,hb⟩
 refine ⟨⟨fun id=>if id∈names then loc' id else loc id,⟨hR.small,hR.names,fun id v h h2=> ?_,z6.size,z6.defers,fun i sv h=> ?_,z6.uI,⟨hR.base.1.trans z6.base.1,fun b j v h=> ?_⟩,fun id o h=> ?_,fun i j oi oj hi hj hne=> ?_,fun b hb hl=> ?_,
  z6.os.trans hR.os,z6.tape.trans hR.tape,z6.output.trans hR.output,dB hR.grown z6.grown,fun q=>dB (hR.drawn q) (z6.drawn q)⟩,fun id o h g hg=> ?_⟩,fun b hb hno=> ?_⟩
 ·show (if id∈names then loc' id else loc id)=v
  split
  ·rename_i hm
   obtain ⟨o,ho'⟩:=kA.1 ((hn id).2 hm);rw [z6.fix id _ (Wy ho') h2];exact hR.fix id v h h2
  ·exact hR.fix id v h h2
 ·obtain ⟨v,hv,hr⟩:=z6.env i sv h
  obtain ⟨c1,c2⟩:=he i sv h;refine ⟨v,hv,?_⟩;have:=RD (loc':=fun id=>if id∈names then loc' id else loc id) (ρ:=fun i=>i) (names:=names) (fun j hj=>au hj) c1 hr
  rwa [c2] at this
 ·rcases z6.base.2 b j v h with h|h
  ·exact hR.base.2 b j v h
  ·exact .inr (dB hR.grown h)
 ·obtain ⟨c0,c1,c2⟩:=ho id o h
  have:=Jw (n0':=w0.heap.size) (L':=L) (loc':=fun id=>if id∈names then loc' id else loc id) (ρ:=fun i=>i) (names:=names) (id':=id) (fun j hj=>au hj) c1 (z6.obs id o h) (au c0) (fun b hb=>by
   rcases ((z6.obs id o h).block b hb).1 with h1|⟨v,h1,h2⟩
   ·exact .inl (dB hR.grown h1)
   ·obtain ⟨⟨o',h3⟩,rfl⟩:=xB h1
    exact hown id o' h3 b h2)
  rwa [c2] at this
 ·intro g hg
  show¬jH (if j∈names then loc' j else loc j) g;rw [au (ho j oj hj).1];have hg':jH (if i∈names then loc' i else loc i) g:=hg;rw [au (ho i oi hi).1] at hg';exact z6.apart i j oi oj hi hj hne g hg'
 ·refine (z6.keep b (eX hb hR.grown) fun hc=> ?_).trans (hR.keep b hb hl)
  obtain ⟨id,o,h1,h2⟩:=zf b hc;rcases hown id o h1 b h2 with h3|⟨v,h3,h4⟩
  ·omega
  ·exact hl ⟨id,v,h3,h4⟩
 ·have hg':jH (if id∈names then loc' id else loc id) g:=hg
  rw [au (ho id o h).1] at hg';rcases ((z6.obs id o h).block g hg').1 with h1|⟨v,h1,h2⟩
  ·exact .inl h1
  ·obtain ⟨⟨o',h3⟩,rfl⟩:=xB h1
   exact .inr ⟨id,o',h3,h2⟩
 ·refine z6.keep b hb fun hc=> ?_
  obtain ⟨id,o,h1,h2⟩:=zf b hc;exact hno id o h1 h2
theorem NN {h:Hint} {bM:dQ} (iO:ga L.q μ0 P bM) {ops:Array Oper} {id n:Nat} {e:Ex} (hd:∀o∈ops.toList,∀i,o.dst=some i→i<N) (hx:exec P h bM n (.region id ops false) st=some (e,st')) (hR:Rel N w0 μ0 L μ loc st a w)
  {Q:Exit→Act→World→Prop} (hQ:∀a' w' μ' loc',Rel N w0 μ0 L μ' loc' st' a' w'→Q .normal a' w'):wpListIn Fence.wide 0 P ops Q ops.toList a w:=by
 simp only [exec] at hx;obtain ⟨s1,gp,hx⟩:=dw.1 hx;obtain ⟨μ1,IW⟩:=JB hR gp;simp only [aj] at hx;cases hr:qk P h bM ops ops.toList s1 with
 |none=>simp [hr] at hx
 |some s=>
  simp [hr] at hx;obtain ⟨rfl,rfl⟩:=hx;exact Ei iO IW hd hr hQ _ Wd.wide
theorem Rel.aside (hR:Rel N w0 μ0 L μ loc st a w) {r:Nat} (hr:w0.heap.size≤r) (tR:∀j,μ r j=none) (hno:∀id o,st.ob id=some o→¬jH (loc id) r) (hb:∀b,b≠r→w'.heap[b]? =w.heap[b]?)
  (hos:w'.os=w.os) (ht:w'.tape=w.tape) (hout:w'.output=w.output) (hsz:w'.heap.size=w.heap.size) (YP:w.drawn≤w'.drawn):Rel N w0 μ0 L μ loc st a w':=by
 refine hR.world (Mu.le.refl _) (fun _ _ _ h=> .inl h) (fun b j v h=> ?_) (fun id o h b hin=>⟨hb b fun e=>hno id o h (e▸hin),((hR.obs id o h).block b hin).2.2⟩) (fun b h1 _=>hb b (by omega)) hos ht hout (by omega) (fun _=>YP);have hne:b≠r:=fun e=>by rw [e,tR j] at h;cases h
 rw [fZ (hb b hne) j];exact hR.uI b j v h
end
end Go.AM
