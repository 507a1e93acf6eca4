/- slices.SortedFunc over slices.Values of arcs, taken as a pri. -/
import Derived.Test.YthphfjcnkinkpaaGreatDoorClQe
import Derived.RangeFuncWrites
import Derived.RangeFuncLeaves
import Derived.RangeFuncBox
import Derived.RangeFuncNested
import Derived.OwnWalkIn
import Derived.TacticsInMore
import Derived.LoopNIn
import Derived.LoopIn
import Derived.Test.YthphfjcnkinkpaaGreatDoorClQa
import Derived.WalkKit
import Derived.Lib.Strings
import Derived.Lib.Slices
import Derived.Lib.Walk
import Derived.Lib.Bytealg
import Derived.Deep.RegionLaw
import Derived.Deep.Upon
import Derived.Test.YthphfjcnkinkpaaGreatDoorCards
import Derived.Test.YthphfjcnkinkpaaGreatDoorTie
import Derived.ProofKit
import Derived.OpenShut
import Derived.Deep.DeepHandedRow
import Derived.Stop.LaidErr
import Derived.Test.YthphfjcnkinkpaaGreatDoorClXq
set_option linter.all false
set_option maxRecDepth 100000
set_option maxHeartbeats 2000000
open List (replicate)
namespace Go.Proofs.YthphfjcnkinkpaaGreatDoor.cl
open Go Go.AM Go.RowKit
attribute [local go_sem] Oper.semAt_some
abbrev C2:Type:={ l:List Value // l.length=2/\∀u∈l,u.oneCell'=true }
def flat (l:List C2):List Value:=(l.map (·.1)).flatten
def aaO:∀{l:List C2} {k:Nat} {x:C2} {j:Nat} {u:Value},l[k]? =some x->x.1[j]? =some u->(flat l)[k *2+j]? =some u:=by intro l;induction l with
 |nil=>intro k x j u h;simp at h
 |cons y l z=>intro k x j u h q;have w:=y.2.1;simp only[flat,bS,u9];cases k with
  |zero=>simp only[List.getElem?_cons_zero,bq] at h;subst h;have:=(bR.1 q).1;rw[fV af];simpa using q
  |succ k=>rw[gD af,w,show(k+1) *2+j-2=k *2+j by omega];exact z (by simpa using h) q
def WU (x:C2):∃a b,x.1=[a,b]/\a.oneCell'=true/\b.oneCell'=true:=by obtain⟨q,h,l⟩:=x;match q,h with
 |[a,b],_=>exact⟨a,b,rfl,l a ai,l b ai⟩
def Cz {w:World} {c:Array Value} {t i:Nat} {v:Value} (D:i<c.size) (G:v.oneCell'=true):
  Sem.run P (store ⟨w.heap.size,i,none⟩ v) (w.alloc (.cells c t))= .ok () (w.alloc (.cells (c.setIfInBounds i v) t)):=by
 have l:=World.alloc_heap_new w (.cells c t);have q:(w.alloc (.cells c t)).cell? ⟨w.heap.size,i,none⟩=some c[i]:=by simp only[World.cell?,l];simp[D]
 have z:(w.alloc (.cells c t)).frozen? ⟨w.heap.size,i,none⟩=false:=by simp only[World.frozen?,l];simp
 rw[run_store _ _ _ _ _ G,q];simp[z,World.setCell_alloc_new]
def two_new {w:World} {l q:Value} {t:TypeId}:∀(j:Nat) (u:Value),[l,q][j]? =some u->(w.alloc (.cells #[l,q] t)).cell? ((⟨w.heap.size,0,none⟩:Addr).add j)=some u:=by intro j u z;rw[zx];have:=World.alloc_heap_new w (.cells #[l,q] t);simp only[World.cell?,this];simpa using z
def valuesA {n:Nat} (hn:1<=n) {Bs os n₀:Nat} {a:Option Addr} {cap:Nat} {xs:List C2} {w:World} (hcap:xs.length<4611686018427387904) (hB:Bs<n₀) (hn₀:n₀<=w.heap.size)
  (hBs:w.cell? ⟨Bs,os,none⟩=some (.slice a xs.length cap)) (hc:xs=[]\/∃b off,a=some ⟨b,off,none⟩/\b<n₀/\∀j u,(flat xs)[j]? =some u->w.cell? ⟨b,off+j,none⟩=some u):
  SeqStopsK Fence.wide n P 200 #[.pointer (some ⟨Bs,os,none⟩)] (λx:C2=> #[.agg x.1.toArray]) (Below n₀) (λys=>ys=xs) (λ_=>True) xs.length w:=λl J Jx W hW hJ _ hY h0=>by
 have hw:Below n₀ w W:=hW.mono hn₀;replace hBs:=(hw.cell (p:=⟨Bs,os,none⟩) hB).trans hBs;replace hc:xs=[]\/∃b off,a=some ⟨b,off,none⟩/\b<n₀/\∀j u,(flat xs)[j]? =some u->W.cell? ⟨b,off+j,none⟩=some u:=hc.imp id λ⟨b,off,e,hb,h⟩=>⟨b,off,e,hb,λj u hj=>(hw.cell (p:=⟨b,off+j,none⟩) hb).trans (h j u hj)⟩
 replace hn₀:=fU hn₀ hW.size;refine zy Tryz.func200 rfl trivial ?_ rfl;simp only[Tryz.ntmps200,rj,bD,fG,Nat.reduceAdd,Nat.reduceSub,vf,vg,vh,vi,dQ,gC]
 gi_wp2
 gi_loopw [7] (λi wr=>∃k:Nat,k<=xs.length/\i= .int .i64 k/\J (xs.take k) wr/\Below n₀ W wr)
  (λi _=>xs.length-(intOf i).toNat)
 case atStart=>exact⟨0,cZ _,rfl,by simpa using h0,ic _ _⟩
 case round=>
  obtain⟨k,hk,rfl,hJs,hnx⟩:=hrel;by_cases hlt:k<xs.length
  .obtain⟨u0,u1,hx,o0,o1⟩:=WU xs[k];obtain⟨b,off,rfl,hb,hcc⟩:∃b off,a=some ⟨b,off,none⟩/\b<n₀/\∀j u,(flat xs)[j]? =some u->W.cell? ⟨b,off+j,none⟩=some u:=by
    rcases hc with h|h
    .subst h;simp at hlt
    .exact h
   have hg:=aM hlt;have hc0:wr.cell? ⟨b,off+k *2,none⟩=some u0:=(hnx.cell (p:=⟨b,off+k *2,none⟩) hb).trans (hcc _ _ (aaO (j:=0) hg (by rw[hx];rfl)));have hc1:wr.cell? ⟨b,off+k *2+1,none⟩=some u1:=(hnx.cell (p:=⟨b,off+k *2+1,none⟩) hb).trans (hcc _ _ (aaO (j:=1) hg (by rw[hx];rfl)));have hs0:=Cz (w:=wr) (c:= #[.int .i64 0, .int .i64 0]) (t:=68) (i:=0) (by decide) o0;have hs1:=Cz (w:=wr) (c:= #[u0, .int .i64 0]) (t:=68) (i:=1) ai o1;have hs0':Sem.run P (store ⟨wr.heap.size,0,none⟩ u0) (wr.alloc (.cells #[.int .i64 0, .int .i64 0] 68))= .ok () (wr.alloc (.cells #[u0, .int .i64 0] 68)):=hs0;have hs1':Sem.run P (store ⟨wr.heap.size,1,none⟩ u1) (wr.alloc (.cells #[u0, .int .i64 0] 68))= .ok () (wr.alloc (.cells #[u0,u1] 68)):=hs1;have hJ2:J (xs.take k) (wr.alloc (.cells #[u0,u1] 68)):=hJ _ wr _ none hJs (World.grownBy_alloc _ _ _) (λr e=>by cases e);obtain⟨fn,tmps,assign,body,hy,hR⟩:=hY _ xs[k] _ hJ2 aI;rw[hx] at hy
   gi_wp2
   refine hR.mono ?_;rintro e W3 (⟨rfl,hJ3,hk3⟩|⟨rfl,hJ3⟩)
   .gi_wp2
    go_roundw
    case rel=>exact⟨k+1,by omega,by simp,by rw[cM,hg];exact hJ3,(hnx.alloc (fU hn₀ hnx.size) _).trans hk3⟩
    case measure=>simp[intOf];omega
   .gi_wp2
    refine bodyPost_ret (results_none rfl _ _ _) rfl ?_;exact⟨⟨_,rfl⟩, .inr ⟨_,trivial,hJ3⟩⟩
  .obtain rfl:k=xs.length:=by omega
   gi_wp2
   go_end0
   exact⟨⟨_,rfl⟩, .inl ⟨_,rfl,by simpa using hJs⟩⟩
def Coll (l:World) (q:Nat) (pre:List C2) (W:World):Prop:=
 (∃v,Boxed W q 69 v/\W.ownsRow l.heap.size 68 2 v pre.length (flat pre)/\True)/\Below l.heap.size l W
def R7 (l:World) (q B:Nat) (hB:l.heap.size<=B):OwnFrom B (Coll l q):=
 OwnFrom.and (Own.from (holdsRow_own l.heap.size q 69 68 2 (λs:List C2=>s.length) flat (λ_ _=>True)) _) (ownFrom_below (aZ _) hB)
def Elt (l b:Value) (x:C2) (w:Act) (W:World):Prop:=
 ∃q,W.heap[q]? =some (.cells x.1.toArray 68 (0,0))/\w={ tmps:= #[.slice none 0 0,l,b,undef, .slice none 0 0, .pointer (some ⟨q,0,none⟩),l, .agg x.1.toArray,undef,undef,undef,undef,undef],defers:=[] }
def elt_own (z b:Value) (B:Nat) (x:C2) (w:Act):OwnFrom B (λ(_:Unit) W=>Elt z b x w W):=λs A C row K G I=>by obtain⟨q,h,e⟩:=K;refine⟨q,(G.block q (mE.1 h).1 λe=> ?_).trans h,e⟩;obtain⟨_,o,l,D⟩:=I q e.symm;rw[h] at l;cases l;cases D
def appendA {n:Nat} (hn:3<=n) {Bs os:Nat} {a:Option Addr} {cap:Nat} {xs:List C2} {w:World} (hlen:xs.length *16<=140737488355328) (hB:Bs<w.heap.size)
  (hBs:w.cell? ⟨Bs,os,none⟩=some (.slice a xs.length cap)) (hc:xs=[]\/∃b off,a=some ⟨b,off,none⟩/\b<w.heap.size/\∀j u,(flat xs)[j]? =some u->w.cell? ⟨b,off+j,none⟩=some u):
  CallsIn Fence.wide n P 241 #[.slice none 0 0, .func (.func 200) #[] #[.pointer (some ⟨Bs,os,none⟩)]] w λe w'=>∃v,e= .returned v/\w'.ownsRow w.heap.size 68 2 v xs.length (flat xs)/\Below w.heap.size w w':=by
 have h1:1<=n:=af;refine callsIn_of_wp_marks Tryz.func241 rfl trivial ?_ rfl;simp only[Tryz.ntmps241,rj,bD,fG,Nat.reduceAdd,Nat.reduceSub,vf,vg,vh,vi,dQ,gC]
 gi_wp2
 have hb1:Below w.heap.size w (w.alloc (.cells #[.slice none 0 0] 69)):=(ic _ w).alloc (aZ _) _;obtain⟨i0,hi,UA,hz1,hz2⟩:=info_parts (show(P.info? 68).map (λi=>(i.zero,i.size,i.bytes))=some (some (.agg #[.int .i64 0, .int .i64 0]),2,16) by kernel_rfl);refine wpIn_rangeFunc_ownH rfl h1 (gf:=200) (lb:= #[.pointer (some ⟨Bs,os,none⟩)]) rfl trivial (enters_of Tryz.func200 (by kernel_rfl) rfl)
  (valuesA (n:=n-1) af (w:=w.alloc (.cells #[.slice none 0 0] 69)) (a:=a) (cap:=cap) (xs:=xs) (n₀:=w.heap.size) af hB ai ((hb1.cell (p:=⟨Bs,os,none⟩) hB).trans hBs) (hc.imp id λ⟨b,off,e,hb,h⟩=>⟨b,off,e,hb,λj u hj=>(hb1.cell (p:=⟨b,off+j,none⟩) hb).trans (h j u hj)⟩))
  belowK_t (belowK_b ai) (ic _ _) (λ_=>rfl)
  (Coll w w.heap.size) (λ_ _ _=>False) (R7 _ _ _ ai) (λ_ _ _ _ _ hs _ _=>hs)
  ⟨⟨_,Boxed.new _ _ _,⟨rfl, .inl ⟨rfl,rfl⟩⟩,trivial⟩,hb1⟩
  (Elt (.func (.func 200) #[] #[.pointer (some ⟨Bs,os,none⟩)]) (.pointer (some ⟨w.heap.size,0,none⟩))) (elt_own _ _ _) ?assign ?body ?done ?stop
 case assign=>
  intro l pre x W K hI hK;obtain⟨u0,u1,hx,o0,o1⟩:=WU x;have hs0:=Cz (w:=W) (c:= #[.int .i64 0, .int .i64 0]) (t:=68) (i:=0) (by decide) o0;have hs1:=Cz (w:=W) (c:= #[u0, .int .i64 0]) (t:=68) (i:=1) ai o1;have hs0':Sem.run P (store ⟨W.heap.size,0,none⟩ u0) (W.alloc (.cells #[.int .i64 0, .int .i64 0] 68))= .ok () (W.alloc (.cells #[u0, .int .i64 0] 68)):=hs0;have hs1':Sem.run P (store ⟨W.heap.size,1,none⟩ u1) (W.alloc (.cells #[u0, .int .i64 0] 68))= .ok () (W.alloc (.cells #[u0,u1] 68)):=hs1;rw[hx]
  gi_wp2
  refine hK _ _ ((KeepsOthers.alloc _ _).from _) ((ic _ _).alloc hI.2.size _) (R7 _ _ _ hI.2.size _ W _ none hI (World.grownBy_alloc _ _ _) (λr e=>by cases e)) ⟨W.heap.size,by rw[hx];exact World.alloc_heap_new _ _,by rw[hx]⟩
 case body=>
  rintro l pre x a' W hl _ ⟨⟨v,hv,hrow,_⟩,hB⟩ ⟨q,hq,rfl⟩ hlen;obtain⟨u0,u1,hx,o0,o1⟩:=WU x;rw[hx] at hq⊢;have c0:=hv.cell;have cq0:W.cell? ⟨q,0,none⟩=some u0:=by simp[World.cell?,hq]
  have cq1:W.cell? ⟨q,1,none⟩=some u1:=by simp[World.cell?,hq]
  have M6:pre.length+1<=xs.length:=hlen
  gi_wp2_with (first
   |(gi_at_builtin;refine wpListIn_append_own _ rfl _ _ 69 rfl w.heap.size 68 i0 (.agg #[.int .i64 0, .int .i64 0]) 2 16 Tryz.underlying69 hi UA hz1 hz2 rfl (by decide) _ _ _ rfl (hrow.alloc _) ⟨W.heap.size,0,none⟩ 1 1 [u0,u1] rfl rfl two_new (by simp[o0,o1]) (by unfold maxLen;omega) af (by have:=hB.size;simp;omega) ?_;intro v' w3 hown' hg3 hnil3
     obtain⟨g,cap',rfl⟩:=ownsRow_succ hown';obtain⟨b1,b2,b3,b4,b5⟩:=Boxed.appended hv (by decide) hrow hB.size (aZ _) hown' hg3;have c3:=b1.cell
     have f3:=b1.frozen)
   |gi_in)
  exact⟨b4.from _,b5,⟨_,b2,by simpa[flat,hx] using b3,trivial⟩,hB.trans b5⟩
 case done=>
  rintro D ys W hD rfl ⟨⟨v,h1,h2,_⟩,h3⟩ hK;have c0:=h1.cell
  gi_wp2
  refine⟨ai, .inl ⟨_,_,rfl,run_takeDeferred hK,?_⟩⟩;exact⟨_,results_tmp rfl _ _ _,_,rfl,ownsRow_putObj h2 _ hK rfl,h3.trans (belowK_b (w:=w) (aZ _) W D _ _ (by simp at hD;omega) hK rfl rfl)⟩
 case stop=>rintro D c pre W _ _ h _;exact h.elim
def aa4 {n:Nat} (hn:4<=n) {Bs os:Nat} {a:Option Addr} {cap:Nat} {xs:List C2} {w:World} (hlen:xs.length *16<=140737488355328) (hB:Bs<w.heap.size)
  (hBs:w.cell? ⟨Bs,os,none⟩=some (.slice a xs.length cap)) (hc:xs=[]\/∃b off,a=some ⟨b,off,none⟩/\b<w.heap.size/\∀j u,(flat xs)[j]? =some u->w.cell? ⟨b,off+j,none⟩=some u):
  CallsIn Fence.wide n P 198 #[.func (.func 200) #[] #[.pointer (some ⟨Bs,os,none⟩)]] w λe w'=>∃v,e= .returned v/\w'.ownsRow w.heap.size 68 2 v xs.length (flat xs)/\Below w.heap.size w w':=by
 have h1:1<=n:=af;have hf:Fence.wide.fn 241:=trivial;refine zy Tryz.func198 rfl trivial ?_ rfl;simp only[Tryz.ntmps198,rj,bD,fG,Nat.reduceAdd,Nat.reduceSub,vf,vg,vh,vi,dQ,gC]
 gi_wp2_with (gi_at_call 241;refine(appendA (n:=n-1) af hlen hB hBs hc).mono ?_;rintro e w' ⟨v,rfl,hrow,hb⟩)
 go_ret
 exact⟨v,rfl,hrow,hb⟩
end Go.Proofs.YthphfjcnkinkpaaGreatDoor.cl
set_option maxRecDepth 100000
set_option maxHeartbeats 2000000
namespace Go.Proofs.YthphfjcnkinkpaaGreatDoor.cl
open Go Go.AM Go.RowKit
attribute [local go_sem] Oper.semAt_some
def Al.c2 {S:SK} {l:Mu} (x:Al S l):C2:=⟨x.cells,x.len,x.one⟩
def Xo {S:SK} {q:Mu} (l:List (Al S q)):flat (l.map Al.c2)=(l.map Al.cells).flatten:=by simp[flat,Al.c2,nq]
def sortedA {μ:Mu} {loc:Nat->Value} {w:World} {xs:List (List AV)} {l:List (Int×Int)} {u:Value} (oH:L0 μ w) (hl:Bh xs=some l) (hap:Bg l=true) (hlen:l.length<=1073741824) (hu:rep μ (.fn 200 [.ref [.dG 2 xs]]) u):
  Calls P 145 #[u, .func (.func 147) #[] #[]] w λe w'=>∃v μ' loc',e= .returned v/\fL False μ loc [] (.gX [.gX [.self 68, .dG 2 ((tR V7 l).map Sg)]]) [] w v μ' loc' w':=by
 have hxs:=MJ hl;subst hxs;rw[rep.eq_def] at hu;dsimp only at hu;obtain⟨vs,rfl,p,vs',rfl,hp,hvs'⟩:=hu
 have:vs'=[]:=hvs'
 subst this;rw[rep.eq_def] at hp;dsimp only at hp;obtain⟨b,off,cs,rfl,⟨sl,cs',rfl,hsl,hcs'⟩,h1c,hc⟩:=hp
 have:cs'=[]:=hcs'
 subst this;have hsl0:=hc 0 sl rfl;rw[lY] at hsl0;rw[rep.eq_def] at hsl;dsimp only at hsl;obtain⟨A,c,rfl,hc1,Vr,hA⟩:=hsl;have hcell:=yK (oH _ _ _ hsl0) rfl;have hlt:=sO (oH _ _ _ hsl0);obtain⟨als,ha1,hcc⟩:∃als:List (Al SKa μ),als.map (λx=>x.1.1)=l/\(als.map Al.c2=[]\/∃b off,A=some ⟨b,off,none⟩/\b<w.heap.size/\∀j u,(flat (als.map Al.c2))[j]? =some u->w.cell? ⟨b,off+j,none⟩=some u):=by
  rcases hA with h0|⟨b',off',ea,hrow⟩
  .have:l=[]:=by simpa using h0
   subst this;exact⟨[],rfl, .inl rfl⟩
  .obtain⟨us,k1,k2⟩:=uv hrow;have k3:=kL k1;obtain⟨als,e1,e2⟩:=aaE (S:=SKa) (l:=l) (λp _=>trivial) k1;refine⟨als,e1,?_⟩;cases hl0:als with
   |nil=>exact .inl rfl
   |cons x0 als0=>
    rw[<-hl0];refine .inr ⟨b',off',ea,?_,λj u hj=> ?_⟩
    .have hx:=x0.len;obtain⟨u0,hu0⟩:∃u0,us[0]? =some u0:=by
      rw[e2,hl0];cases hx':x0.cells with
      |nil=>rw[hx'] at hx;simp at hx
      |cons a t=>exact⟨a,by simp[hx']⟩
     exact sO (oH _ _ _ (k2 0 u0 hu0))
    .rw[Xo,<-e2] at hj;exact yK (oH _ _ _ (k2 j u hj)) (k3 u (aR hj))
 have hal:(als.map Al.c2).length=l.length:=by rw[<-ha1];simp
 have hll:(l.map Sg).length=(als.map Al.c2).length:=by rw[hal];simp
 rw[hll] at hcell;refine(uI (n:=9)).1 ?_;have hf1:Fence.wide.fn 198:=trivial;have hf2:Fence.wide.fn 199:=trivial;have hn:1<=9:=by decide
 refine zy Tryz.func145 rfl trivial ?_ rfl;simp only[Tryz.ntmps145,rj,bD,fG,Nat.reduceAdd,Nat.reduceSub,vf,vg,vh,vi,dQ,gC]
 gi_wp2_with (gi_at_call 198;refine(aa4 (n:=8) af (xs:=als.map Al.c2) af hlt hcell hcc).mono ?_;rintro e w1 ⟨v,rfl,hrow,hb⟩)
 have hpub1:L0 μ w1:=λb j x hx=>by have h:=oH b j x hx;rw[ji (hb.block b (sO h)) j];exact h
 have hbase:∀g,mG v g->w.heap.size<=g:=λg hg=>by
  rcases hrow.2 with⟨e,_⟩|⟨g',cap,cur,e,h2,_⟩
  .rw[e] at hg;rcases hg with hg|⟨us,hg,_⟩<;>cases hg
  .rw[e] at hg;rcases hg with hg|⟨us,hg,_⟩
   .cases hg;exact h2
   .cases hg
 have IA:∀g,mG v g->∀j,μ g j=none:=λg hg j=>by cases hm:μ g j with
  |none=>rfl
  |some x=>have:=sO (oH _ _ _ hm);have:=hbase g hg;omega
 have hrc:dc μ 2 (l.map Sg) (flat (als.map Al.c2)):=by rw[Xo,<-ha1,e8];exact adP als
 have sY:nY w1.heap.size (iq False (λ_=>v) [10000]) μ (λ_=>v) w1 10000 (.row 68 2 (l.map Sg)):=by
  refine⟨_,?_,hrc,λg hg=>⟨.inr (.inr ⟨v,by simp[iq],hg⟩),IA g hg⟩⟩;rw[hll];refine⟨hrow.1,?_⟩;rcases hrow.2 with h|⟨g,cap,cur,h1,_,h2⟩
  .exact .inl h
  .exact .inr ⟨g,cap,cur,h1,cZ _,h2⟩
 have hs:=sort47 (S:=SKa) (l:=l) Tryz.laysF6a Tryz.isAgg68 Tryz.sizeOf68 hlen (by rw[aaC];exact YY hap) (λp _=>trivial) hpub1 sY;rw[aaC] at hs;refine((uI (n:=8)).2 hs).mono ?_;rintro e w2 ⟨v2,μ2,loc2,rfl,hP⟩
 gi_wp2
 go_ret
 have SJ:=hP.fix 10000 ai (by decide) (by decide);obtain⟨vs2,EH,Zz,hbl2⟩:=hP.obs 10000 _ rfl;rw[SJ] at EH hbl2;have hin:∀g,cu v=some g->mG v g:=λg hg=> .inl hg
 have hk:∀b,b<w.heap.size->w2.heap[b]? =w.heap[b]? :=λb hlt=>
  (hP.keep b (fH hlt hb.size) (by
   rintro⟨id,v',h1,h2⟩
   have:v'=v:=by
    simp only[iq] at h1;split at h1
    .exact(fR h1).symm
    .cases h1
   rw[this] at h2
   have:=hbase b h2;omega)).trans (hb.block b hlt)
 refine⟨_,μ2,loc,rfl,?_⟩
 exact {
  ext:=⟨hP.ext.1,λb j x hx=>by
   rcases hP.ext.2 b j x hx with h|h|⟨id,_,h1,h2,hx,_⟩
   .exact .inl h
   .exact .inr (.inl (fU hb.size h))
   .simp only[iq] at hx;split at hx
    .rename_i hm;simp at hm;omega
    .cases hx⟩
  yc:=hP.yc
  res:= .inr (.inr (.inr ⟨68,2,_,vs2,rfl,EH,Zz,λg hg=>⟨.inl (hbase g (hin g hg)),(hbl2 g (hin g hg)).2,λid o h=>by cases h⟩⟩))
  obs:=λid o h=>by cases h
  apart:=λi j oi oj h=>by cases h
  keep:=λb hlt _=>hk b hlt
  fix:=λid h=>by cases h
  os:=hP.os.trans hb.os
  tape:=hP.tape.trans hb.tape
  output:=hP.output.trans hb.output
  grown:=fU hb.size hP.grown
  drawn:=λh=>h.elim }
end Go.Proofs.YthphfjcnkinkpaaGreatDoor.cl
set_option maxRecDepth 100000
set_option maxHeartbeats 2000000
namespace Go.Proofs.YthphfjcnkinkpaaGreatDoor.cl
open Go Go.AM Go.RowKit
def cmp119 (a b:ByteArray) (w:World):Calls P 182 #[.string a, .string b] w λe w'=>e= .returned (.int .i64 (Lib.compareBytes a.data.toList b.data.toList))/\w'=w:=by
 go_enter Tryz.func182,Tryz.ntmps182
 go_wp2
 rw[run_callFunc_extern Tryz.func227 (by kernel_rfl) (by kernel_rfl) (by kernel_rfl) (e:=Extern.BytealgCompare.compare) (by kernel_rfl),Lib.run_compareString];simp only[Result.andThen];rw[Oper.upon_value]
 go_wp2
 go_ret
 exact⟨rfl,rfl⟩
def cmp65 (a b:ByteArray) (w:World):Calls P 119 #[.string a, .string b] w λe w'=>e= .returned (.int .i64 (Lib.compareBytes a.data.toList b.data.toList))/\w'=w:=by
 go_enter Tryz.func119,Tryz.ntmps119
 go_wp2_with (go_at_call 182;refine(cmp119 _ _ _).mono ?_;rintro e w' ⟨rfl,rfl⟩)
 go_ret
 exact⟨rfl,rfl⟩
def JE:∀a b:List UInt8,Lib.compareBytes a b=L8 a b
 |[],[]=>rfl
 |[],_::_=>rfl
 |a::x,[]=>by have e:(a::x==([]:List UInt8))=false:=rfl;unfold L8;rw[e];rfl
 |a::x,b::y=>by
  have z:=JE x y;unfold Lib.compareBytes;unfold L8 at z⊢;unfold Op.bytesLess;by_cases l:a<b
  .simp[l]
  .by_cases q:b<a
   .have w:a≠b:=λe=>l (e▸q)
    have e1:(a==b)=false:=by simpa using w
    simp[l,q,e1]
   .have D:a=b:=UInt8.le_antisymm (UInt8.not_lt.1 q) (UInt8.not_lt.1 l);subst D;rw[az l,az l,z];simp[l]
end Go.Proofs.YthphfjcnkinkpaaGreatDoor.cl
set_option maxRecDepth 1000000
set_option maxHeartbeats 4000000
namespace Go.Proofs.YthphfjcnkinkpaaGreatDoor.cl
open Go Go.AM Go.RowKit
def Fc (cur:Array Value):Nat->List Value->Array Value
 |_,[]=>cur
 |o,v::r=>Fc (cur.setIfInBounds o v) (o+1) r
def yF:∀(q:List Value) (o:Nat) (l:Array Value),(Fc l o q).size=l.size
 |[],_,_=>rfl
 |v::r,o,l=>by rw[Fc,yF r];simp
def BU:∀(q:List Value) (o:Nat) (l:Array Value),o+q.length<=l.size->(Fc l o q).toList=l.toList.take o++q++l.toList.drop (o+q.length)
 |[],o,l,_=>by simp[Fc]
 |v::r,o,l,h=>by rw[bD] at h;rw[Fc,BU r (o+1) _ aI,Array.toList_setIfInBounds,cM,nv aI,GU (aZ _),GV af];simp[nj,kN,Nat.add_left_comm]
def z8 {g:Nat} {e:TypeId}:∀(l:List Value) (o:Nat) {w:World} {cur:Array Value},w.heap[g]? =some (.cells cur e (0,0))->(w.setCells g o l).heap[g]? =some (.cells (Fc cur o l) e (0,0))
 |[],_,_,_,h=>h
 |v::r,o,w,cur,h=>by refine z8 r (o+1) (w:=w.setCell ⟨g,o,none⟩ v) (cur:=cur.setIfInBounds o v) ?_;show(w.heap.modify g _)[g]? =_;rw[zq,aB rfl,h];rfl
def ya (g:Nat):∀(l:List Value) (o:Nat) (w:World),(w.setCells g o l).tape=w.tape
 |[],_,_=>rfl
 |v::r,o,w=>ya g r (o+1) _
def tK (g:Nat):∀(l:List Value) (o:Nat) (w:World),(w.setCells g o l).heap.size=w.heap.size
 |[],_,_=>rfl
 |v::r,o,w=>(tK g r (o+1) _).trans (by show(w.heap.modify g _).size=_;simp)
def R6 (w:World) (t e ty:TypeId) (z:Value) (K:P.underlying t=some (.slice e)) (L:∀w,(zeroValue e).run P w= .ok z w) (b o n c:Nat) (N:0<n) (Z:List Value) (D:(Builtin.zeroCells z.cells n).toList=Z) (q:∀v∈Z,v.oneCell'=true)
  (G:∀j,j<Z.length->(w.cell? ⟨b,o+j,none⟩).isSome=true) (I:∀j,j<Z.length->w.frozen? ⟨b,o+j,none⟩=false):
  (Builtin.clear_ #[t] ty #[.slice (some ⟨b,o,none⟩) n c]).run P w= .ok (.tuple #[]) (w.setCells b o Z):=by
 have l:=run_storeCells_cells (P:=P) b o Z 0 w (by simpa using G) (by simpa using I) q;simp only[lY] at l;obtain⟨m,rfl⟩:∃m,n=m+1:=⟨n-1,af⟩
 simp[Builtin.clear_,bW K,L,D,l]
def zC:List Value:=[.string ⟨#[]⟩, .int .i64 0, .string ⟨#[]⟩, .slice none 0 0, .slice none 0 0, .slice none 0 0]
def Ru:Nat->List Value
 |0=>[]
 |n+1=>zC++Ru n
def Rr:∀n,(Ru n).length=n *6
 |0=>rfl
 |n+1=>by rw[Ru,cE,Rr n,nt,kN];rfl
def Rs:∀n,∀v∈Ru n,v.oneCell'=true
 |0,v,h=>by cases h
 |n+1,v,h=>by
  rcases bu.1 h with h|h
  .simp only[zC,aS,nG,pZ] at h;rcases h with rfl|rfl|rfl|rfl|rfl|rfl<;>rfl
  .exact Rs n v h
def aeF (n:Nat):(Builtin.zeroCells zC.toArray n).toList=Ru n:=by
 have key:∀n,(List.range (n *6)).map (λi=>zC.toArray[i % 6]!)=Ru n:=by intro n;induction n with
  |zero=>rfl
  |succ n l=>
   rw[nt,kN,wM,cL,e8,Ru,<-l];congr 1;refine iE λi _=> ?_
   show zC.toArray[(6+i) % 6]! =_;rw[Nat.add_mod_left]
 rw[<-key n];unfold Builtin.zeroCells;simp[zC]
def YT {l:Mu}:∀n,dc l 6 (replicate n aeG) (Ru n)
 |0=>rfl
 |n+1=>by
  rw[mb];have nl:∀k,rep l (.dG k []) (.slice none 0 0):=λk=>by rw[rep];exact⟨none,0,rfl,aZ _,cZ _, .inl rfl⟩
  exact⟨zC,Ru n,rfl,⟨⟨_,_,rfl,by rw[rep],_,_,rfl,by rw[rep],_,_,rfl,by rw[rep],_,_,rfl,nl _,_,_,rfl,nl _,_,_,rfl,nl _,rfl⟩,λu q=>Rs 1 u (by simpa[Ru] using q)⟩,rfl,YT n⟩
def kS {w:Mu} {l:Nat}:∀(i:Nat) {xs:List (List AV)} {q:List Value},dc w l xs q->dc w l (xs.take i) (q.take (i *l))/\dc w l (xs.drop i) (q.drop (i *l))
 |0,xs,q,h=>by rw[Bb];exact⟨rfl,h⟩
 |i+1,[],q,h=>by
  have:q=[]:=h
  subst this;rw[List.take_nil,List.take_nil,List.drop_nil,List.drop_nil];exact⟨rfl,rfl⟩
 |i+1,x::xs,q,h=>by
  obtain⟨D,ws,rfl,G,z,I⟩:=h;obtain⟨a,b⟩:=kS i I;have e:(i+1) *l=D.length+i *l:=by rw[nt,z,kN]
  rw[GQ,GN,e,GZ,A9];exact⟨⟨D,ws.take (i *l),rfl,G,z,a⟩,b⟩
def z1 {z:Mu} {w:Nat}:∀{xs q:List (List AV)} {l ws:List Value},dc z w xs l->dc z w q ws->dc z w (xs++q) (l++ws)
 |[],q,l,ws,h,k=>by
  have:l=[]:=h
  subst this;exact k
 |x::xs,q,l,ws,h,k=>by obtain⟨L,K,rfl,D,G,I⟩:=h;exact⟨L,K++ws,by rw[ef],D,G,z1 I k⟩
def del72 {μ:Mu} {loc:Nat->Value} {w:World} {xs:List (List AV)} {i j:Nat} (hij:i<j) (hj:j<=xs.length) (oH:L0 μ w) (sY:nY w.heap.size (iq False loc [10000]) μ loc w 10000 (.row 73 6 xs)):
  Calls P 126 #[loc 10000, .int .i64 i, .int .i64 j] w λe w'=>∃v μ' loc',e= .returned v/\fL False μ loc [10000] (.self ((xs.length-(j-i):Nat))) [(10000, .row 73 6 (xs.take i++xs.drop j++replicate (j-i) aeG))] w v μ' loc' w':=by
 obtain⟨vs,hown,hrc,Xx⟩:=sY;have hvl:=dg hrc;have hv1:=kL hrc;rcases hown.2 with⟨_,h0⟩|⟨g,cap,cur,e1,_,hg,hcap,hmax,hsz,M7⟩
 .omega
 .obtain⟨hownB,IA⟩:=Xx g (by rw[e1];exact iS.2 rfl);rw[e1];obtain⟨i0,hi0,UA,hz1,hz2⟩:=info_parts (show(P.info? 73).map (λi=>(i.zero,i.size,i.bytes))=some (some (.agg zC.toArray),6,112) by kernel_rfl);have hcz:cur.size=cap *6:=hsz;have Xw:∀k,k<xs.length *6->cur.toList[k]? =vs[k]? :=λk hk=>by
   rw[<-M7,oU,aB hk]
  have hcell:∀k u,vs[k]? =some u->w.drew.cell? ⟨g,k,none⟩=some u:=λk u hk=>by have hkl:=(bR.1 hk).1;have:=(Xw k af).trans hk;rw[Array.getElem?_toList] at this;show w.cell? _=_;unfold World.cell?;simp[hg,this]
  have hsome:∀k,k<cap *6->(w.drew.cell? ⟨g,k,none⟩).isSome=true:=λk hk=>by show(w.cell? _).isSome=true;unfold World.cell?;simp[hg,hcz,hk]
  have hfroz:∀k,w.drew.frozen? ⟨g,k,none⟩=false:=λk=>by show w.frozen? _=false;unfold World.frozen?;simp[hg]
  obtain⟨news,hnews⟩:∃news,news=vs.drop (j *6):=⟨_,rfl⟩
  have hlen:news.length=(xs.length-j) *6:=by rw[hnews,lW,hvl,Nat.sub_mul]
  obtain⟨A,hA,hsrc⟩:∃A:Addr,(if cap=j then some (⟨g,0,none⟩:Addr) else some ⟨g,j *6,none⟩)=some A/\Hid (∀t u,news[t]? =some u->w.drew.cell? (A.add t)=some u):=by
   by_cases h:cap=j
   .refine⟨⟨g,0,none⟩,by simp[h],λt u hu=> ?_⟩;have h0:news.length=0:=by rw[hlen];omega
    rw[kG.1 h0] at hu;simp at hu
   .refine⟨⟨g,j *6,none⟩,by simp[h],λt u hu=> ?_⟩;rw[hnews,wK] at hu;rw[zx];exact hcell _ _ hu
  have s1:Hid (news.length=(xs.length-j) *6):=hlen;have s2:Hid (∀u∈news,u.oneCell'=true):=λu hu=>hv1 u (je (by rw[<-hnews];exact hu))
  have s3:Hid (∀t,t<news.length->(w.drew.cell? ⟨g,0+i *6+t,none⟩).isSome=true/\w.drew.frozen? ⟨g,0+i *6+t,none⟩=false):=λt ht=>by rw[hlen] at ht;exact⟨hsome _ af,hfroz _⟩
  obtain⟨W1,hW1⟩:∃W1,W1=w.drew.setCells g (0+i *6) news:=⟨_,rfl⟩
  have hg1:W1.heap[g]? =some (.cells (Fc cur (0+i *6) news) 73 (0,0)):=by rw[hW1];exact z8 _ _ hg
  have abO:∀k,k<cap *6->(W1.cell? ⟨g,k,none⟩).isSome=true:=λk hk=>by unfold World.cell?;simp[hg1,yF,hcz,hk]
  have abE:∀k,W1.frozen? ⟨g,k,none⟩=false:=λk=>by unfold World.frozen?;simp[hg1]
  have hcl:∀ty,(Builtin.clear_ #[23] ty #[.slice (some ⟨g,(i+(xs.length-j)) *6,none⟩) (xs.length-(i+(xs.length-j))) (cap-(i+(xs.length-j)))]).run P W1= .ok (.tuple #[]) (W1.setCells g ((i+(xs.length-j)) *6) (Ru (xs.length-(i+(xs.length-j))))):=λty=>R6 W1 23 73 ty (.agg zC.toArray) Tryz.underlying23 Tryz.zeroValue73 g _ _ _ af _ (aeF _) (Rs _) (λt ht=>by rw[Rr] at ht;exact abO _ af) (λt ht=>abE _)
  have X:Aside (W1.heap[g]? =some (.cells (Fc cur (0+i *6) news) 73 (0,0))):=hg1;have hW:Hid (W1=w.drew.setCells g (0+i *6) news):=hW1;have hic:i<=cap:=af;have hjc:j<=cap:=af;generalize hn:xs.length=n at *;have fin:Aside (∀W2,W2=W1.setCells g ((i+(n-j)) *6) (Ru (n-(i+(n-j))))->∃μ' loc',fL False μ loc [10000] (.self ((n-(j-i):Nat))) [(10000, .row 73 6 (xs.take i++xs.drop j++replicate (j-i) aeG))] w (.slice (some ⟨g,0,none⟩) (i+(n-j)) cap) μ' loc' W2):=by
   rintro W2 rfl;have ez:n-(i+(n-j))=j-i:=af;have ek:(i+(n-j)) *6=i *6+news.length:=by rw[hlen,jR]
   have hzl:=Rr (j-i);have hs1:(Fc cur (0+i *6) news).size=cap *6:=(yF _ _ _).trans hcz;have t1:=BU news (0+i *6) cur (by rw[hlen];omega);have t2:=BU (Ru (j-i)) ((i+(n-j)) *6) (Fc cur (0+i *6) news) (by rw[hs1,hzl];omega);have hl0:(cur.toList.take (i *6)).length=i *6:=by rw[e7,Ba,hcz];omega
   have hvt:vs.take (i *6)=cur.toList.take (i *6):=by rw[<-M7,List.take_take,wQ af]
   have t3:(Fc cur (0+i *6) news).toList.take ((i+(n-j)) *6)=vs.take (i *6)++news:=by rw[t1,eO,ek,hvt];exact zm (by rw[cE,hl0])
   have t4:(Fc (Fc cur (0+i *6) news) ((i+(n-j)) *6) (Ru (j-i))).toList.take (n *6)=vs.take (i *6)++news++Ru (j-i):=by
    have hl:(vs.take (i *6)++news++Ru (j-i)).length=n *6:=by rw[cE,cE,hvt,hl0,hlen,hzl];omega
    rw[t2,t3];exact zm hl
   rw[ez];have hlx:(xs.take i++xs.drop j++replicate (j-i) aeG).length=n:=aI;have hg2:=z8 (Ru (j-i)) ((i+(n-j)) *6) hg1;obtain⟨r1,_⟩:=kS i hrc;obtain⟨_,r2⟩:=kS j hrc;rw[<-hnews] at r2;refine⟨μ,loc,T3 (w:=w) (cur:=cur) (n:=n) (us:=vs.take (i *6)++news++Ru (j-i)) oH e1 hcap hmax hsz hownB IA hg2 (by rw[yF,hs1,hcz]) t4 (by rw[<-t4,e7,Ba,yF,hs1];omega) (λb hb hne=> ?_) ?_ ?_ ?_ ?_ hlx (z1 (z1 r1 r2) (YT _)) (.inr ⟨_,_,_,_,rfl,e1,by omega,by congr 1;omega⟩)⟩
   .rw[hW1] at *;rw[World.heap_setCells_other _ _ _ _ (by rw[tK];exact hb) hne,World.heap_setCells_other _ _ _ _ (by exact hb) hne];rfl
   .rw[World.os_setCells,hW1,World.os_setCells];rfl
   .rw[ya,hW1,ya];rfl
   .rw[World.output_setCells,hW1,World.output_setCells];rfl
   .rw[tK,hW1,tK];exact aZ _
  clear hW1 hg1 hsome hfroz abO abE hcell Xw hnews hlen hown hrc Xx M7 hsz hcz hg hv1 hvl oH
  go_enter Tryz.func126,Tryz.ntmps126
  go_wp2_with fail
  go_region_law (refine step_append_room rfl (.tmp 22) (.tmp 25) 23 rfl 73 i0 6 Tryz.underlying23 hi0 hz1 g 0 i cap (by simp[Act.eval,Act.put]) A (n-j) (cap-j) news (by simp[Act.eval,Act.put]) s1.out hsrc.out s2.out af s3.out ?_;rw[<-hW.out])
  go_wp2
  go_ret
  obtain⟨μ',loc',h⟩:=fin.out _ rfl;exact⟨_,μ',loc',rfl,h⟩
end Go.Proofs.YthphfjcnkinkpaaGreatDoor.cl
namespace Go.Proofs.YthphfjcnkinkpaaGreatDoor.cl
open Go Go.AM Go.RowKit
def Z7:∀{xs:List (List AV)} {l:List (List UInt8)},strs xs=some l->xs=l.map pE:=by intro xs;induction xs with
 |nil=>intro l h;simp[strs] at h;subst h;rfl
 |cons c xs z=>
  intro l h;unfold strs at h;split at h
  .rename_i e;cases e
  .rename_i s D e;injection e with e1 q;subst e1 q;simp only[cH] at h;obtain⟨m,w,rfl⟩:=h;rw[z w];rfl
  .cases h
def post_of {z:Mu} {q:Nat->Value} {w G:World} {r:AV} {v:Value} (I:L0 z w) (l:Below w.heap.size w G) (K:rep z r v):fL False z q [] r [] w v z q G where
 ext:=Mu.ext.toL ⟨Mu.le.refl _,λ_ _ _ h=> .inl h⟩
 yc:=λb j x L=>by have h:=I b j x L;rw[ji (l.block b (sO h)) j];exact h
 res:= .inl K
 obs:=λid o h=>by cases h
 apart:=λi j N O h=>by cases h
 keep:=λb D _=>l.block b D
 fix:=λid h=>by cases h
 os:=l.os
 tape:=l.tape
 output:=l.output
 grown:=l.size
 drawn:=λh=>h.elim
def jF {G:Nat} {L:s8} {K:Mu} {l:Nat->Value} {w:World} {id e I:Nat} {xs:List (List AV)} (h:nY G L K l w id (.row e I xs)):gp (l id)=l id:=by
 obtain⟨N,q,_⟩:=h;rcases q.2 with⟨e1,_⟩|⟨g,z,D,e1,_⟩
 .rw[e1];rfl
 .rw[e1];rfl
def prim_ok {B:Mu}:iz False B P gR:=by
 intro g args cG r sZ z w μ loc us hB I S hap N;unfold gR at z;split at z
 .rename_i xs;obtain⟨Q,z⟩:=cv z;simp only[bq,cD] at z;obtain⟨rfl,rfl⟩:=z;obtain⟨U,K,rfl,D,q⟩:=N
  have:K=[]:=q
  subst this;exact .inl ⟨by decide,λR=>qi Tryz.func197 (by decide) (by rfl) _ R,aa1 (q:=False) (λh=>h) I D (fF Q)⟩
 .rename_i xs;obtain⟨Q,z⟩:=cv z;simp only[bq,cD] at z;obtain⟨rfl,rfl⟩:=z;obtain⟨U,K,rfl,D,q⟩:=N
  have:K=[]:=q
  subst this;exact .inl ⟨by decide,λR=>qi Tryz.func44 (by decide) (by rfl) _ R,aa0 (q:=False) (λh=>h) I D (fF Q)⟩
 .rename_i xs;obtain⟨Q,z⟩:=cv z;simp only[bq,cD] at z;obtain⟨rfl,rfl⟩:=z;obtain⟨U,K,rfl,D,q⟩:=N
  have:K=[]:=q
  subst this;exact .inl ⟨by decide,λR=>qi Tryz.func72 (by decide) (by rfl) _ R,clone31 (q:=False) (λh=>h) I D (fF Q)⟩
 .rename_i xs;obtain⟨Q,z⟩:=cv z;simp only[bq,cD] at z;obtain⟨rfl,rfl⟩:=z;obtain⟨U,K,rfl,D,q⟩:=N
  have:K=[]:=q
  subst this;exact .inl ⟨by decide,λR=>qi Tryz.func116 (by decide) (by rfl) _ R,clone62 (q:=False) (λh=>h) I D (fF Q)⟩
 .rename_i xs;split at z
  .rename_i l hl;obtain⟨Q,z⟩:=cv z;simp only[bq,cD] at z;obtain⟨rfl,rfl⟩:=z;have hxs:=Z7 hl;subst hxs;obtain⟨U,K,rfl,D,q⟩:=N
   have:K=[]:=q
   subst this;have L:U=loc 10000:=(show U=gp (loc 10000) from D).trans (jF (S 10000 _ rfl));subst L;exact .inl ⟨by decide,λR=>qi Tryz.func229 (by decide) (by rfl) _ R,sort80 (fF Q) I (S 10000 _ rfl)⟩
  .cases z
 .rename_i xs;split at z
  .rename_i l hl;obtain⟨Q,z⟩:=cv z;simp only[aV] at Q;simp only[bq,cD] at z;obtain⟨rfl,rfl⟩:=z;obtain⟨U,K,rfl,D,q⟩:=N;obtain⟨u1,us2,rfl,V,O⟩:=q
   have:us2=[]:=O
   subst this;have G:rep μ (.fn 147 []) u1:=V;rw[rep.eq_def] at G;dsimp only at G;obtain⟨vs,rfl,hvs⟩:=G
   have:vs=[]:=hvs
   subst this;exact .inl ⟨by decide,λR=>qi Tryz.func145 (by decide) (by rfl) _ R,sortedA I hl Q.1 (fF Q.2) D⟩
  .cases z
 .rename_i a b;simp only[bq,cD] at z;obtain⟨rfl,rfl⟩:=z;obtain⟨U,K,rfl,D,q⟩:=N;obtain⟨u1,us2,rfl,V,O⟩:=q
  have:us2=[]:=O
  subst this;have L:rep μ (.str a) U:=D;have G:rep μ (.str b) u1:=V;rw[rep] at L G;subst L G;refine .inl ⟨by decide,λR=>qi Tryz.func119 (by decide) (by rfl) _ R,(cmp65 _ _ w).mono ?_⟩;rintro e w' ⟨rfl,rfl⟩;exact⟨_,μ,loc,rfl,post_of I (ic _ _) (by rw[rep];exact aU (Value.int .i64) (JE a b))⟩
 .rename_i i j e xs;obtain⟨Q,z⟩:=cv z;simp only[aV,p6] at Q;obtain⟨⟨⟨hi,hij⟩,hj⟩,he⟩:=Q;have he:=wN he;subst he;simp only[bq,cD] at z;obtain⟨rfl,rfl⟩:=z;obtain⟨U,K,rfl,D,q⟩:=N;obtain⟨u1,us2,rfl,V,O⟩:=q;obtain⟨u2,us3,rfl,hu2,hus3⟩:=O
  have:us3=[]:=hus3
  subst this;have L:U=loc 10000:=(show U=gp (loc 10000) from D).trans (jF (S 10000 _ rfl));subst L;have G:rep μ (.int .i64 i) u1:=V;have hu2':rep μ (.int .i64 j) u2:=hu2;rw[rep] at G hu2';subst G hu2';obtain⟨a,rfl⟩:=dM hi;obtain⟨b,rfl⟩:=dM (by omega:0<=j);have h:=del72 (i:=a) (j:=b) af af I (S 10000 _ rfl);have e1:((b:Int)-(a:Int)).toNat=b-a:=af;rw[aT,aT,e1];exact .inl ⟨by decide,λR=>qi Tryz.func126 (by decide) (by rfl) _ R,h⟩
 .cases z
def blk_all {B:Mu}:∀f fn c,P.funcs[f]? =some fn->fn.body=some c->q7 False B P (H f) fn.ntmps c:=λf fn c _ _=>q7.none (abL f) c
end Go.Proofs.YthphfjcnkinkpaaGreatDoor.cl
set_option maxRecDepth 100000
namespace Go.Proofs.YthphfjcnkinkpaaGreatDoor.cl
open Go Go.AM Go.RowKit Go.ChangeShapes Go.WideShapes Go.ChangeAt
def own:ownKnob Tryz.prog.godebug=none:=by kernel_rfl
def WA (q:Array Value):Obj->Obj
 | .cells _ t l=> .cells q t l
 |o=>o
noncomputable def Gb (l:Os):World:=
 {World.holding Tryz.prog l ⟨#[], #[],[]⟩ with heap:=(((World.holding Tryz.prog l ⟨#[], #[],[]⟩).heap.modify 1 (WA #[.int .u8 0, .int .u8 1, .int .u8 56, .int .u8 2, .int .u8 57, .int .u8 49, .int .u8 28, .int .u8 3, .int .u8 61, .int .u8 58, .int .u8 42, .int .u8 50, .int .u8 38, .int .u8 29, .int .u8 17, .int .u8 4, .int .u8 62, .int .u8 47, .int .u8 59, .int .u8 36, .int .u8 45, .int .u8 43, .int .u8 51, .int .u8 22, .int .u8 53, .int .u8 39, .int .u8 33, .int .u8 30, .int .u8 24, .int .u8 18, .int .u8 12, .int .u8 5, .int .u8 63, .int .u8 55, .int .u8 48, .int .u8 27, .int .u8 60, .int .u8 41, .int .u8 37, .int .u8 16, .int .u8 46, .int .u8 35, .int .u8 44, .int .u8 21, .int .u8 52, .int .u8 32, .int .u8 23, .int .u8 11, .int .u8 54, .int .u8 26, .int .u8 40, .int .u8 15, .int .u8 34, .int .u8 20, .int .u8 31, .int .u8 10, .int .u8 25, .int .u8 14, .int .u8 19, .int .u8 9, .int .u8 13, .int .u8 8, .int .u8 7, .int .u8 6])).modify 2 (WA #[.int .u64 1, .int .u64 10, .int .u64 100, .int .u64 1000, .int .u64 10000, .int .u64 100000, .int .u64 1000000, .int .u64 10000000, .int .u64 100000000, .int .u64 1000000000, .int .u64 10000000000, .int .u64 100000000000, .int .u64 1000000000000, .int .u64 10000000000000, .int .u64 100000000000000, .int .u64 1000000000000000, .int .u64 10000000000000000, .int .u64 100000000000000000, .int .u64 1000000000000000000, .int .u64 10000000000000000000])).modify 3 (WA #[.int .u8 0, .int .u8 1, .int .u8 28, .int .u8 2, .int .u8 29, .int .u8 14, .int .u8 24, .int .u8 3, .int .u8 30, .int .u8 22, .int .u8 20, .int .u8 15, .int .u8 25, .int .u8 17, .int .u8 4, .int .u8 8, .int .u8 31, .int .u8 27, .int .u8 13, .int .u8 23, .int .u8 21, .int .u8 19, .int .u8 16, .int .u8 7, .int .u8 26, .int .u8 12, .int .u8 18, .int .u8 6, .int .u8 11, .int .u8 5, .int .u8 10, .int .u8 9]) }
end Go.Proofs.YthphfjcnkinkpaaGreatDoor.cl
namespace Go.Proofs.YthphfjcnkinkpaaGreatDoor.cl.pf
open Go Go.AM
structure TQ (A:FSt) (m:List Int) (td:List Nat):Prop where
 mem:∀j,j<A.au.length->(0<=m.getD j 0↔j∈td)
 lt:∀j∈td,j<A.au.length
 nd:td.Nodup
def TQ.snoc {A:FSt} {m:List Int} {w:List Nat} (q:TQ A m w) (K:m.length=A.au.length) {t u:Nat} (z:t<A.au.length) (L:m.getD t 0<0):TQ A (m.set t (u:Int)) (w++[t]):=by
 have D :=λh=>by have:=(q.mem t z).2 h;omega
 refine⟨λj l=> ?_,λj l=> ?_,ig.2 ⟨q.nd,by simp,λa G b I=> ?_⟩⟩
 .rw[eF,bu,cQ];by_cases e:t=j
  .omega
  .rw[az (λq=>e q.1),q.mem j l];grind
 .rcases bu.1 l with l|l
  .exact q.lt j l
  simp_all
 grind
section
variable {h:aK} {T F:Nat} {sb:Int->Int->Prop} {bQ:Int->Int} {val:Int->Int->Int} (H:HX h T F sb bQ val) {A B:FSt} (hA:Can T F A) (hB:Can T F B) (hAn:A.au.length<=100000) (hF:F<=1000)
include H hA hB hAn hF
theorem h580_15 {pre:List Nat} {i:Nat} {x:Node} (hx:A.au[i]? =some x) {b:Nat} (hb:b<B.au.length)
  (hr:∀m' post,MI sb A B (· ∈pre++[i]) m'->TQ A m' (pre++i::post)->L1 sb A B (GH ((pre.length+1:Nat):Int) h A B m' (fZ (pre++i::post)))):
  ∀(xs:List cz) (k:Nat) (m:List Int) (post:List Nat),x.bJ.drop k=xs->MI sb A B (· ∈pre) m->TQ A m (pre++i::post)->m.getD i 0=(b:Int)->sb (mI A i) (mI B b)->
   (∀a∈x.bJ.take k,(a.bw,(m.getD a.To.toNat 0).toNat)∈iD B b/\0<=m.getD a.To.toNat 0)->
   L1 sb A B (vv (pre.length:Int) (i:Int) x.bJ (k:Int) h A B m (fZ (pre++i::post))):=by
 have hxm:=aR hx;have hin:i<A.au.length:=(bR.1 hx).1;have R:iD A i=PX x:=by unfold iD;rw[hx]
 have hxl:=(hA.ao hxm).len;have hbm:=bB hb;have Xx:=(hB.ao hbm).len;have S:iD B b=PX B.au[b]:=sN hb;intro xs;induction xs with
 |nil=>
  intro k m post z M Q hm EI hpr
  have hM:MI sb A B (· ∈pre++[i]) m:=⟨M.len,M.rg,M.rt,λj hj=>by
   rcases bu.1 hj with hj|hj
   .exact M.dn j hj
   .rw[cQ.1 hj,hm];refine⟨af,by assumption,λp hp=> ?_⟩;rw[R] at hp;obtain⟨a,ha,rfl⟩:=aG.1 hp
    simp_all[aT,gK,kJ,z],M.hom⟩
  obtain⟨l,r,g1,g2⟩:=hr m post hM Q;have hl:=s5 Q.nd Q.lt;rw[cE,bD] at hl;refine⟨l,r,Pa ?_,g2⟩;rw[aW z,aA,bM af];omega
 |cons a xs ih=>
  intro k m post z M Q hm EI hpr;have ham:a∈x.bJ:=aR (bV z);have hao:=(hA.ao hxm).ok a ham;obtain⟨t,ht⟩:=dM hao.2.1;have N:t<A.au.length:=by have:=hao.2.2;omega
  have htt:a.To.toNat=t:=af;have K:t<m.length:=by rw[M.len];exact N
  have hil:i<m.length:=by rw[M.len];exact hin
  have hsc:(a.bw,t)∈iD A i:=by rw[R];exact aG.2 ⟨a,ham,by rw[htt]⟩
  have P:∀G,yW sb (jI A) 0 (jI B) 0 G->(a.bw,G t)∈iD B b:=λG w=>by have h1:=(w.2 i (hA.LX hin)).2 _ hsc;have h2:=M.hom G w i hin af;rw[hm] at h2;have h3:G i=b:=af;rw[h3] at h1;exact h1
  have hk:=dN z;have hl:=s5 Q.nd Q.lt;have c6:=aaS (f:=B) (c:=b) (x:=B.au[b]) (aM hb) (JO:=a.bw) af;cases e:fa B.au[b].bJ a.bw with
  |none=>
   refine⟨[],false,Pa ?_,⟨λq=>by(cases q),λ⟨G,w⟩=> ?_⟩⟩
   .rw[aP z,ak,qE hil,aJ z,hm,c6,aj];unfold fr;rw[e];rfl
   .have h1:=P G w;rw[S] at h1;obtain⟨c,hc,hce⟩:=aG.1 h1;exact absurd (zc hce).1 (Ez e c hc)
  |some c=>
   obtain⟨hc,hcf⟩:=zL e;have hco:=(hB.ao hbm).ok c hc;obtain⟨u,hu⟩:=dM hco.2.1;have hun:u<B.au.length:=by have:=hco.2.2;omega
   have U:(a.bw,u)∈iD B b:=by rw[S];exact aG.2 ⟨c,hc,by rw[hcf];congr 1;omega⟩
   have O:∀G,yW sb (jI A) 0 (jI B) 0 G->G t=u:=λG w=>(hB.wT b).LW (P G w) U
   have c6:f476 B (b:Int) a.bw=some ((u:Int),true):=by rw[c6];unfold fr;rw[e,<-hu]
   have pre_:∀res:List Int×Bool,(bif decide (m.getD t 0<0) then vv (pre.length:Int) (i:Int) x.bJ ((k+1:Nat):Int) h A B (m.set t (u:Int)) (fZ (pre++i::(post++[t]))) else(bif m.getD t 0 !=(u:Int) then some (([]:List Int),false) else vv (pre.length:Int) (i:Int) x.bJ ((k+1:Nat):Int) h A B m (fZ (pre++i::post))))=some res->
     vv (pre.length:Int) (i:Int) x.bJ (k:Int) h A B m (fZ (pre++i::post))=some res:=λres I=>by
    refine Pa ?_;rw[aP z,ak,qE hil,aJ z,hm,c6,aj,cond_neg (by rfl),aJ z,ht,qE K];by_cases hg:m.getD t 0<0
    .rw[cond_pos (by rw[bg];exact hg)] at I⊢;have htl2:t<(m.set t (u:Int)).length:=by rw[gV];exact K
     have es:(m.set t (u:Int)).getD t 0=u:=by rw[eF,aB ⟨rfl,K⟩]
     have eo:fZ (pre++i::post)++[(t:Int)]=fZ (pre++i::(post++[t])):=by simp[fZ]
     rw[aJ z,ht,qE K,aJ z,cC _ (by grind[fZ,List.length_map]) ai af,aJ z,ht,aT,bT ⟨af,af⟩,oL htl2,aN z af,eo];have e9:(m.set t (u:Int))[t]=(u:Int):=ai;rw[e9,cond_neg ai];exact I
    .rw[cond_neg (by rw[aQ];exact hg)] at I⊢;rw[aJ z,ht,qE K,aN z af];omega
   have done:∀(m':List Int) (L:List Nat),MI sb A B (· ∈pre) _->TQ A _ (pre++i::L)->(∀j,0<=m.getD j 0->m'.getD j 0=m.getD j 0)->m'.getD t 0=u->L1 _ A B _:=λm' L M2 Q2 keep V=>by
    refine ih _ _ _ (aH z) M2 Q2 (by rw[keep i af];exact hm) EI λa' D=> ?_
    rw[cM,bV z] at D;rcases bu.1 D with D|D
    .obtain⟨q1,q2⟩:=hpr _ D;rw[keep _ q2];exact⟨q1,q2⟩
    .simp at D;subst D;rw[htt,V];exact⟨U,af⟩
   by_cases hg:m.getD t 0<0
   .obtain⟨M2,keep,V⟩:=M.qN N hun (.inl hg) O;have Q2:=Q.snoc M.len N hg (u:=u);rw[ef,gC] at Q2;obtain⟨l,r,g1,g2⟩:=done _ _ M2 Q2 keep V;grind
   .by_cases hne:m.getD t 0=(u)
    .obtain⟨l,r,g1,g2⟩:=done _ _ M Q (λ_ _=>rfl) hne;grind
    .refine⟨[],false,pre_ _ ?_,⟨λq=>by(cases q),λ⟨G,w⟩=> ?_⟩⟩
     .grind
     .exact absurd (by rw[M.hom _ w t N af,O _ w]) hne
theorem h580_8:∀(k:Nat) (pre post:List Nat) (m:List Int),A.au.length<=pre.length+k->MI sb A B (· ∈pre) m->TQ A m (pre++post)->L1 sb A B (GH (pre.length:Int) h A B m (fZ (pre++post))):=by intro k;induction k with
 |zero=>
  intro pre post m U M Q;have hl:=s5 Q.nd Q.lt;rw[cE] at hl;have e:post=[]:=kG.1 af;subst e;rw[dF] at Q⊢;refine⟨m,true,VW ?_,⟨λ_=>⟨λj=>(m.getD j 0).toNat,?_,λj K=> ?_⟩,λ_=>rfl⟩⟩
  .simp_all[fZ]
  .show(m.getD 0 0).toNat=0;rw[M.rt];rfl
  .obtain⟨P,z,R⟩:=M.dn j (adD Q.nd Q.lt U (hA.Ms K));exact⟨z,λp I=>(R p I).1⟩
 |succ k ih=>intro pre post m U M Q;cases post with
  |nil=>
   rw[dF] at Q⊢;refine⟨m,_,VW ?_,⟨λ_=>⟨λj=>(m.getD j 0).toNat,?_,λj K=> ?_⟩,λ_=>rfl⟩⟩
   .simp_all[fZ]
   .show(m.getD 0 0).toNat=0;rw[M.rt];rfl
   .have hm:∀{j},qG _ 0 j->j∈pre:=λ{j} K=>by
     induction K with
     |root=>exact(Q.mem 0 hA.ne).1 (by rw[M.rt];omega)
     | @step n p hn I S=>have:=((M.dn n S).2.2 p I).2;exact(Q.mem _ (hA.Ms (hn.step I))).1 this
    obtain⟨P,z,R⟩:=M.dn j (hm K);exact⟨z,λp I=>(R p I).1⟩
  |cons i post=>
   have w :=Q.lt i ai;have hil:i<m.length:=by rw[M.len];exact w
   have P :=(Q.mem i w).2 ai;obtain⟨b,hb⟩:=dM P;have D:b<B.au.length:=by have:=M.rg i w;omega
   have L:=hA.Um (bB w);have N:=hB.Um (bB D);obtain⟨r,_,s1,s3⟩:=H.ss _ _ L.1 L.2 N.1 N.2;have eA :=oa w;have eB :=oa D;have ol:pre.length<(fZ (pre++i::post)).length:=by unfold fZ;simp
   have og:(fZ _)[pre.length]=(i):=by simp[fZ]
   have go:∀{res},(bif(!r) then some (([]),false) else vv (pre.length) (i) A.au[i].bJ 0 h A B m (fZ (pre++i::post)))=some res->GH (pre.length) h A B m (fZ (pre++i::post))=some res:=λ{res} V=>by simp_all[VW,bT,oL,bU]
   cases r with
   |false=>refine⟨[],_,go (by rfl),⟨λq=>by(cases q),λ⟨μ,O⟩=> ?_⟩⟩;have z:=(O.2 i (hA.LX w)).1;have R:=M.hom _ O i w P;have h3:μ i=b:=af;rw[h3] at z;have z:sb (mI A i) (mI B b):=z;simp_all
   |true=>
    have hs:=s3.1 rfl;rw[<-eA,<-eB] at hs
    obtain⟨l,r,g1,g2⟩:=h580_15 H hA hB hAn hF (aM w) D (λm' G M' Q'=>by
     have:=ih _ G _ (by grind) M' (by simp_all)
     simp_all) _ 0 m _ rfl M Q hb hs (λa ha=>by cases ha)
    exact⟨l,r,go (by simp_all),g2⟩
theorem c580:L1 sb A B (f580 h A B):=by
 have O:=hA.ne;obtain⟨n,G⟩:∃n,A.au.length=n+1:=⟨A.au.length-1,af⟩
 have D:∀j,(0::replicate n (-1)).getD j 0=if j=0 then 0 else if j<A.au.length then-1 else 0:=λj=>by grind
 have M:MI sb A B (· ∈([])) (0::replicate n (-1)):=by
  refine⟨by simp[G],λj q=> ?_,by rfl,λj q=>(by cases q),λR z j q w=> ?_⟩
  .rw[D];have:=hB.ne;omega
  .rw[D] at w⊢;by_cases e:j=0
   .subst e;rw[z.1];rfl
   omega
 have Q:TQ A (0::replicate n (-1)) ([]++[0]):=⟨λj q=>by grind,λj q=>by simp_all,ai⟩
 obtain⟨l,r,I,K⟩:=h580_8 H hA hB hAn hF A.au.length _ _ _ ai M Q;have key:∀(k i),n=i+k->Rg ((i+1:Nat)) h A B (0::(replicate i (-1)++replicate k 0))=some (l,r):=by intro k;induction k with
  |zero=>
   intro i L;have e :=by omega
   subst e;refine adl ?_;rw[cond_neg ai,nS,dF];exact I
  |succ k P=>
   intro i L;refine adl ?_;have N:i+1<(0::(replicate i (-1)++replicate (k+1) 0)).length:=ai;rw[qE N,aT,bM af];have e:(0::(replicate i (-1)++replicate (k+1) 0)).set (i+1) (-1)=0::(replicate (i+1) (-1)++replicate k 0):=by rw[mb,qa];simp
   grind
 refine⟨l,r,e580 ?_,K⟩;rw[bT ⟨af,by omega,by omega,af⟩,G];have:=key n 0 af;assumption
theorem c575:∃r,f575 h A B=some r/\(r=true↔Le sb A B):=by obtain⟨l,r,q,w⟩:=c580 H hA hB hAn hF;simp_all[e575]
end
