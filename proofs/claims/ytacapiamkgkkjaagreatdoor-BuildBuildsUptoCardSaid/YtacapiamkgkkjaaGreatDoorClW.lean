/- slices.SortedFunc over slices.Values of arcs, taken as a pri. -/
import Derived.Test.YtacapiamkgkkjaaGreatDoorClQe
import Derived.RangeFuncWrites
import Derived.RangeFuncLeaves
import Derived.RangeFuncBox
import Derived.RangeFuncNested
import Derived.OwnWalkIn
import Derived.TacticsInMore
import Derived.LoopNIn
import Derived.LoopIn
import Derived.Test.YtacapiamkgkkjaaGreatDoorClQs
import Derived.WalkKit
import Derived.Lib.Strings
import Derived.Lib.Slices
import Derived.Lib.Walk
import Derived.Lib.Bytealg
import Derived.Deep.RegionLaw
import Derived.Deep.Upon
import Derived.Test.YtacapiamkgkkjaaGreatDoorCards
import Derived.Test.YtacapiamkgkkjaaGreatDoorTie
import Derived.ProofKit
import Derived.OpenShut
import Derived.Deep.DeepHandedRow
import Derived.Stop.LaidErr
set_option linter.all false
set_option maxRecDepth 100000
set_option maxHeartbeats 2000000
namespace Go.Proofs.YtacapiamkgkkjaaGreatDoor.cl
open Go Go.AM Go.RowKit
attribute [local go_sem] Oper.semAt_some
abbrev C2:Type:={ l:List Value // l.length=2/\∀u∈l,u.oneCell'=true }
def flat (l:List C2):List Value:=(l.map (·.1)).flatten
def ZE:∀{l:List C2} {k:Nat} {x:C2} {j:Nat} {u:Value},l[k]? =some x->x.1[j]? =some u->(flat l)[k *2+j]? =some u:=by intro l;induction l with
 |nil=>intro k x j u h;simp at h
 |cons y l z=>intro k x j u h q;have w:=y.2.1;simp only[flat,bu,uT];cases k with
  |zero=>simp only[yP,aM] at h;subst h;have:=(bP.1 q).1;rw[eX af];simpa using q
  |succ k=>rw[fD af,w,show(k+1) *2+j-2=k *2+j by omega];exact z (by simpa using h) q
def Vx (x:C2):∃a b,x.1=[a,b]/\a.oneCell'=true/\b.oneCell'=true:=by obtain⟨q,h,l⟩:=x;match q,h with
 |[a,b],_=>exact⟨a,b,rfl,l a ai,l b ai⟩
def Ce {w:World} {c:Array Value} {t i:Nat} {v:Value} (B:i<c.size) (D:v.oneCell'=true):
  Sem.run P (store ⟨w.heap.size,i,none⟩ v) (w.alloc (.cells c t))= .ok () (w.alloc (.cells (c.setIfInBounds i v) t)):=by
 have l:=World.alloc_heap_new w (.cells c t);have q:(w.alloc (.cells c t)).cell? ⟨w.heap.size,i,none⟩=some c[i]:=by simp only[World.cell?,l];simp[B]
 have z:(w.alloc (.cells c t)).frozen? ⟨w.heap.size,i,none⟩=false:=by simp only[World.frozen?,l];simp
 rw[run_store _ _ _ _ _ D,q];simp[z,World.setCell_alloc_new]
def two_new {w:World} {l q:Value} {t:TypeId}:∀(j:Nat) (u:Value),[l,q][j]? =some u->(w.alloc (.cells #[l,q] t)).cell? ((⟨w.heap.size,0,none⟩:Addr).add j)=some u:=by intro j u z;rw[yX];have:=World.alloc_heap_new w (.cells #[l,q] t);simp only[World.cell?,this];simpa using z
def valuesA {n:Nat} (hn:1<=n) {Bs os n₀:Nat} {a:Option Addr} {cap:Nat} {xs:List C2} {w:World} (hcap:xs.length<4611686018427387904) (hB:Bs<n₀) (hn₀:n₀<=w.heap.size)
  (hBs:w.cell? ⟨Bs,os,none⟩=some (.slice a xs.length cap)) (hc:xs=[]\/∃b off,a=some ⟨b,off,none⟩/\b<n₀/\∀j u,(flat xs)[j]? =some u->w.cell? ⟨b,off+j,none⟩=some u):
  SeqStopsK Fence.wide n P 305 #[.pointer (some ⟨Bs,os,none⟩)] (λx:C2=> #[.agg x.1.toArray]) (Below n₀) (λys=>ys=xs) (λ_=>True) xs.length w:=λl J Jx W hW hJ _ hY h0=>by
 have hw:Below n₀ w W:=hW.mono hn₀;replace hBs:=(hw.cell (p:=⟨Bs,os,none⟩) hB).trans hBs;replace hc:xs=[]\/∃b off,a=some ⟨b,off,none⟩/\b<n₀/\∀j u,(flat xs)[j]? =some u->W.cell? ⟨b,off+j,none⟩=some u:=hc.imp id λ⟨b,off,e,hb,h⟩=>⟨b,off,e,hb,λj u hj=>(hw.cell (p:=⟨b,off+j,none⟩) hb).trans (h j u hj)⟩
 replace hn₀:=eE hn₀ hW.size;refine yY Tryz.func305 rfl trivial ?_ rfl;simp only[Tryz.ntmps305,pQ,bw,eS,Nat.reduceAdd,Nat.reduceSub,uW,uX,uY,uZ,dS,fS]
 gi_wp2
 gi_loopw [7] (λi wr=>∃k:Nat,k<=xs.length/\i= .int .i64 k/\J (xs.take k) wr/\Below n₀ W wr)
  (λi _=>xs.length-(intOf i).toNat)
 case atStart=>exact⟨0,c4 _,rfl,by simpa using h0,ic _ _⟩
 case round=>
  obtain⟨k,hk,rfl,hJs,hnx⟩:=hrel;by_cases hlt:k<xs.length
  .obtain⟨u0,u1,hx,o0,o1⟩:=Vx xs[k];obtain⟨b,off,rfl,hb,hcc⟩:∃b off,a=some ⟨b,off,none⟩/\b<n₀/\∀j u,(flat xs)[j]? =some u->W.cell? ⟨b,off+j,none⟩=some u:=by
    rcases hc with h|h
    .subst h;simp at hlt
    .exact h
   have hg:=aN hlt;have hc0:wr.cell? ⟨b,off+k *2,none⟩=some u0:=(hnx.cell (p:=⟨b,off+k *2,none⟩) hb).trans (hcc _ _ (ZE (j:=0) hg (by rw[hx];rfl)));have hc1:wr.cell? ⟨b,off+k *2+1,none⟩=some u1:=(hnx.cell (p:=⟨b,off+k *2+1,none⟩) hb).trans (hcc _ _ (ZE (j:=1) hg (by rw[hx];rfl)));have hs0:=Ce (w:=wr) (c:= #[.int .i64 0, .int .i64 0]) (t:=57) (i:=0) (by decide) o0;have hs1:=Ce (w:=wr) (c:= #[u0, .int .i64 0]) (t:=57) (i:=1) ai o1;have hs0':Sem.run P (store ⟨wr.heap.size,0,none⟩ u0) (wr.alloc (.cells #[.int .i64 0, .int .i64 0] 57))= .ok () (wr.alloc (.cells #[u0, .int .i64 0] 57)):=hs0;have hs1':Sem.run P (store ⟨wr.heap.size,1,none⟩ u1) (wr.alloc (.cells #[u0, .int .i64 0] 57))= .ok () (wr.alloc (.cells #[u0,u1] 57)):=hs1;have hJ2:J (xs.take k) (wr.alloc (.cells #[u0,u1] 57)):=hJ _ wr _ none hJs (World.grownBy_alloc _ _ _) (λr e=>by cases e);obtain⟨fn,tmps,assign,body,hy,hR⟩:=hY _ xs[k] _ hJ2 aH;rw[hx] at hy
   gi_wp2
   refine hR.mono ?_;rintro e W3 (⟨rfl,hJ3,hk3⟩|⟨rfl,hJ3⟩)
   .gi_wp2
    go_roundw
    case rel=>exact⟨k+1,by omega,by simp,by rw[dr,hg];exact hJ3,(hnx.alloc (eE hn₀ hnx.size) _).trans hk3⟩
    case measure=>simp[intOf];omega
   .gi_wp2
    refine bodyPost_ret (results_none rfl _ _ _) rfl ?_;exact⟨⟨_,rfl⟩, .inr ⟨_,trivial,hJ3⟩⟩
  .obtain rfl:k=xs.length:=by omega
   gi_wp2
   go_end0
   exact⟨⟨_,rfl⟩, .inl ⟨_,rfl,by simpa using hJs⟩⟩
def Coll (l:World) (q:Nat) (pre:List C2) (W:World):Prop:=
 (∃v,Boxed W q 58 v/\W.ownsRow l.heap.size 57 2 v pre.length (flat pre)/\True)/\Below l.heap.size l W
def QN (l:World) (q B:Nat) (w:l.heap.size<=B):OwnFrom B (Coll l q):=
 OwnFrom.and (Own.from (holdsRow_own l.heap.size q 58 57 2 (λs:List C2=>s.length) flat (λ_ _=>True)) _) (ownFrom_below (aW _) w)
def Elt (l b:Value) (x:C2) (w:Act) (W:World):Prop:=
 ∃q,W.heap[q]? =some (.cells x.1.toArray 57 (0,0))/\w={ tmps:= #[.slice none 0 0,l,b,undef, .slice none 0 0, .pointer (some ⟨q,0,none⟩),l, .agg x.1.toArray,undef,undef,undef,undef,undef],defers:=[] }
def elt_own (z b:Value) (B:Nat) (x:C2) (w:Act):OwnFrom B (λ(_:Unit) W=>Elt z b x w W):=λs A C row H F G=>by obtain⟨q,h,e⟩:=H;refine⟨q,(F.block q (ga.1 h).1 λe=> ?_).trans h,e⟩;obtain⟨_,o,l,D⟩:=G q e.symm;rw[h] at l;cases l;cases D
def adD {n:Nat} (hn:3<=n) {Bs os:Nat} {a:Option Addr} {cap:Nat} {xs:List C2} {w:World} (hlen:xs.length *16<=140737488355328) (hB:Bs<w.heap.size)
  (hBs:w.cell? ⟨Bs,os,none⟩=some (.slice a xs.length cap)) (hc:xs=[]\/∃b off,a=some ⟨b,off,none⟩/\b<w.heap.size/\∀j u,(flat xs)[j]? =some u->w.cell? ⟨b,off+j,none⟩=some u):
  CallsIn Fence.wide n P 336 #[.slice none 0 0, .func (.func 305) #[] #[.pointer (some ⟨Bs,os,none⟩)]] w λe w'=>∃v,e= .returned v/\w'.ownsRow w.heap.size 57 2 v xs.length (flat xs)/\Below w.heap.size w w':=by
 have h1:1<=n:=af;refine callsIn_of_wp_marks Tryz.func336 rfl trivial ?_ rfl;simp only[Tryz.ntmps336,pQ,bw,eS,Nat.reduceAdd,Nat.reduceSub,uW,uX,uY,uZ,dS,fS]
 gi_wp2
 have hb1:Below w.heap.size w (w.alloc (.cells #[.slice none 0 0] 58)):=(ic _ w).alloc (aW _) _;obtain⟨i0,hi,Ti,hz1,hz2⟩:=info_parts (show(P.info? 57).map (λi=>(i.zero,i.size,i.bytes))=some (some (.agg #[.int .i64 0, .int .i64 0]),2,16) by kernel_rfl);refine wpIn_rangeFunc_ownH rfl h1 (gf:=305) (lb:= #[.pointer (some ⟨Bs,os,none⟩)]) rfl trivial (enters_of Tryz.func305 (by kernel_rfl) rfl)
  (valuesA (n:=n-1) af (w:=w.alloc (.cells #[.slice none 0 0] 58)) (a:=a) (cap:=cap) (xs:=xs) (n₀:=w.heap.size) af hB ai ((hb1.cell (p:=⟨Bs,os,none⟩) hB).trans hBs) (hc.imp id λ⟨b,off,e,hb,h⟩=>⟨b,off,e,hb,λj u hj=>(hb1.cell (p:=⟨b,off+j,none⟩) hb).trans (h j u hj)⟩))
  belowK_t (belowK_b ai) (ic _ _) (λ_=>rfl)
  (Coll w w.heap.size) (λ_ _ _=>False) (QN _ _ _ ai) (λ_ _ _ _ _ hs _ _=>hs)
  ⟨⟨_,Boxed.new _ _ _,⟨rfl, .inl ⟨rfl,rfl⟩⟩,trivial⟩,hb1⟩
  (Elt (.func (.func 305) #[] #[.pointer (some ⟨Bs,os,none⟩)]) (.pointer (some ⟨w.heap.size,0,none⟩))) (elt_own _ _ _) ?assign ?body ?done ?stop
 case assign=>
  intro l pre x W K hI hK;obtain⟨u0,u1,hx,o0,o1⟩:=Vx x;have hs0:=Ce (w:=W) (c:= #[.int .i64 0, .int .i64 0]) (t:=57) (i:=0) (by decide) o0;have hs1:=Ce (w:=W) (c:= #[u0, .int .i64 0]) (t:=57) (i:=1) ai o1;have hs0':Sem.run P (store ⟨W.heap.size,0,none⟩ u0) (W.alloc (.cells #[.int .i64 0, .int .i64 0] 57))= .ok () (W.alloc (.cells #[u0, .int .i64 0] 57)):=hs0;have hs1':Sem.run P (store ⟨W.heap.size,1,none⟩ u1) (W.alloc (.cells #[u0, .int .i64 0] 57))= .ok () (W.alloc (.cells #[u0,u1] 57)):=hs1;rw[hx]
  gi_wp2
  refine hK _ _ ((KeepsOthers.alloc _ _).from _) ((ic _ _).alloc hI.2.size _) (QN _ _ _ hI.2.size _ W _ none hI (World.grownBy_alloc _ _ _) (λr e=>by cases e)) ⟨W.heap.size,by rw[hx];exact World.alloc_heap_new _ _,by rw[hx]⟩
 case body=>
  rintro l pre x a' W hl _ ⟨⟨v,hv,hrow,_⟩,hB⟩ ⟨q,hq,rfl⟩ hlen;obtain⟨u0,u1,hx,o0,o1⟩:=Vx x;rw[hx] at hq⊢;have c0:=hv.cell;have cq0:W.cell? ⟨q,0,none⟩=some u0:=by simp[World.cell?,hq]
  have cq1:W.cell? ⟨q,1,none⟩=some u1:=by simp[World.cell?,hq]
  have Ms:pre.length+1<=xs.length:=hlen
  gi_wp2_with (first
   |(gi_at_builtin;refine wpListIn_append_own _ rfl _ _ 58 rfl w.heap.size 57 i0 (.agg #[.int .i64 0, .int .i64 0]) 2 16 Tryz.underlying58 hi Ti hz1 hz2 rfl (by decide) _ _ _ rfl (hrow.alloc _) ⟨W.heap.size,0,none⟩ 1 1 [u0,u1] rfl rfl two_new (by simp[o0,o1]) (by unfold maxLen;omega) af (by have:=hB.size;simp;omega) ?_;intro v' w3 hown' hg3 hnil3
     obtain⟨g,cap',rfl⟩:=ownsRow_succ hown';obtain⟨b1,b2,b3,b4,b5⟩:=Boxed.appended hv (by decide) hrow hB.size (aW _) hown' hg3;have c3:=b1.cell
     have f3:=b1.frozen)
   |gi_in)
  exact⟨b4.from _,b5,⟨_,b2,by simpa[flat,hx] using b3,trivial⟩,hB.trans b5⟩
 case done=>
  rintro D ys W hD rfl ⟨⟨v,h1,h2,_⟩,h3⟩ hK;have c0:=h1.cell
  gi_wp2
  refine⟨ai, .inl ⟨_,_,rfl,run_takeDeferred hK,?_⟩⟩;exact⟨_,results_tmp rfl _ _ _,_,rfl,ownsRow_putObj h2 _ hK rfl,h3.trans (belowK_b (w:=w) (aW _) W D _ _ (by simp at hD;omega) hK rfl rfl)⟩
 case stop=>rintro D c pre W _ _ h _;exact h.elim
def ZT {n:Nat} (hn:4<=n) {Bs os:Nat} {a:Option Addr} {cap:Nat} {xs:List C2} {w:World} (hlen:xs.length *16<=140737488355328) (hB:Bs<w.heap.size)
  (hBs:w.cell? ⟨Bs,os,none⟩=some (.slice a xs.length cap)) (hc:xs=[]\/∃b off,a=some ⟨b,off,none⟩/\b<w.heap.size/\∀j u,(flat xs)[j]? =some u->w.cell? ⟨b,off+j,none⟩=some u):
  CallsIn Fence.wide n P 303 #[.func (.func 305) #[] #[.pointer (some ⟨Bs,os,none⟩)]] w λe w'=>∃v,e= .returned v/\w'.ownsRow w.heap.size 57 2 v xs.length (flat xs)/\Below w.heap.size w w':=by
 have h1:1<=n:=af;have hf:Fence.wide.fn 336:=trivial;refine yY Tryz.func303 rfl trivial ?_ rfl;simp only[Tryz.ntmps303,pQ,bw,eS,Nat.reduceAdd,Nat.reduceSub,uW,uX,uY,uZ,dS,fS]
 gi_wp2_with (gi_at_call 336;refine(adD (n:=n-1) af hlen hB hBs hc).mono ?_;rintro e w' ⟨v,rfl,hrow,hb⟩)
 go_ret
 exact⟨v,rfl,hrow,hb⟩
end Go.Proofs.YtacapiamkgkkjaaGreatDoor.cl
set_option maxRecDepth 100000
set_option maxHeartbeats 2000000
namespace Go.Proofs.YtacapiamkgkkjaaGreatDoor.cl
open Go Go.AM Go.RowKit
attribute [local go_sem] Oper.semAt_some
def Al.c2 {S:SK} {l:Mu} (x:Al S l):C2:=⟨x.cells,x.len,x.one⟩
def V0 {S:SK} {q:Mu} (l:List (Al S q)):flat (l.map Al.c2)=(l.map Al.cells).flatten:=by simp[flat,Al.c2,lY]
def sortedA {μ:Mu} {loc:Nat->Value} {w:World} {xs:List (List AV)} {l:List (Int×Int)} {u:Value} (oE:Lq μ w) (hl:AF xs=some l) (hap:AE l=true) (hlen:l.length<=1073741824) (hu:rep μ (.fn 305 [.ref [.dy 2 xs]]) u):
  Calls P 263 #[u, .func (.func 265) #[] #[]] w λe w'=>∃v μ' loc',e= .returned v/\fF False μ loc [] (.gM [.gM [.self 57, .dy 2 ((tE UN l).map QZ)]]) [] w v μ' loc' w':=by
 have hxs:=L8 hl;subst hxs;rw[rep.eq_def] at hu;dsimp only at hu;obtain⟨vs,rfl,p,vs',rfl,hp,hvs'⟩:=hu
 have:vs'=[]:=hvs'
 subst this;rw[rep.eq_def] at hp;dsimp only at hp;obtain⟨b,off,cs,rfl,⟨sl,cs',rfl,Y5,hcs'⟩,h1c,hc⟩:=hp
 have:cs'=[]:=hcs'
 subst this;have hsl0:=hc 0 sl rfl;rw[lX] at hsl0;rw[rep.eq_def] at Y5;dsimp only at Y5;obtain⟨A,c,rfl,hc1,Tg,hA⟩:=Y5;have hcell:=yj (oE _ _ _ hsl0) rfl;have hlt:=sr (oE _ _ _ hsl0);obtain⟨Y3,ha1,hcc⟩:∃Y3:List (Al SKa μ),Y3.map (λx=>x.1.1)=l/\(Y3.map Al.c2=[]\/∃b off,A=some ⟨b,off,none⟩/\b<w.heap.size/\∀j u,(flat (Y3.map Al.c2))[j]? =some u->w.cell? ⟨b,off+j,none⟩=some u):=by
  rcases hA with h0|⟨b',off',ea,hrow⟩
  .have:l=[]:=by simpa using h0
   subst this;exact⟨[],rfl, .inl rfl⟩
  .obtain⟨us,k1,k2⟩:=tZ hrow;have k3:=kQ k1;obtain⟨Y3,e1,e2⟩:=Zw (S:=SKa) (l:=l) (λp _=>trivial) k1;refine⟨Y3,e1,?_⟩;cases hl0:Y3 with
   |nil=>exact .inl rfl
   |cons x0 als0=>
    rw[<-hl0];refine .inr ⟨b',off',ea,?_,λj u hj=> ?_⟩
    .have hx:=x0.len;obtain⟨u0,hu0⟩:∃u0,us[0]? =some u0:=by
      rw[e2,hl0];cases hx':x0.cells with
      |nil=>rw[hx'] at hx;simp at hx
      |cons a t=>exact⟨a,by simp[hx']⟩
     exact sr (oE _ _ _ (k2 0 u0 hu0))
    .rw[V0,<-e2] at hj;exact yj (oE _ _ _ (k2 j u hj)) (k3 u (bf hj))
 have hal:(Y3.map Al.c2).length=l.length:=by rw[<-ha1];simp
 have hll:(l.map QZ).length=(Y3.map Al.c2).length:=by rw[hal];simp
 rw[hll] at hcell;refine(uz (n:=9)).1 ?_;have hf1:Fence.wide.fn 303:=trivial;have hf2:Fence.wide.fn 304:=trivial;have hn:1<=9:=by decide
 refine yY Tryz.func263 rfl trivial ?_ rfl;simp only[Tryz.ntmps263,pQ,bw,eS,Nat.reduceAdd,Nat.reduceSub,uW,uX,uY,uZ,dS,fS]
 gi_wp2_with (gi_at_call 303;refine(ZT (n:=8) af (xs:=Y3.map Al.c2) af hlt hcell hcc).mono ?_;rintro e w1 ⟨v,rfl,hrow,hb⟩)
 have hpub1:Lq μ w1:=λb j x hx=>by have h:=oE b j x hx;rw[jq (hb.block b (sr h)) j];exact h
 have hbase:∀g,lE v g->w.heap.size<=g:=λg hg=>by
  rcases hrow.2 with⟨e,_⟩|⟨g',cap,cur,e,h2,_⟩
  .rw[e] at hg;rcases hg with hg|⟨us,hg,_⟩<;>cases hg
  .rw[e] at hg;rcases hg with hg|⟨us,hg,_⟩
   .cases hg;exact h2
   .cases hg
 have Cr:∀g,lE v g->∀j,μ g j=none:=λg hg j=>by cases hm:μ g j with
  |none=>rfl
  |some x=>have:=sr (oE _ _ _ hm);have:=hbase g hg;omega
 have hrc:cW μ 2 (l.map QZ) (flat (Y3.map Al.c2)):=by rw[V0,<-ha1,fk];exact acr Y3
 have qC:ni w1.heap.size (gZ False (λ_=>v) [10000]) μ (λ_=>v) w1 10000 (.row 57 2 (l.map QZ)):=by
  refine⟨_,?_,hrc,λg hg=>⟨.inr (.inr ⟨v,by simp[gZ],hg⟩),Cr g hg⟩⟩;rw[hll];refine⟨hrow.1,?_⟩;rcases hrow.2 with h|⟨g,cap,cur,h1,_,h2⟩
  .exact .inl h
  .exact .inr ⟨g,cap,cur,h1,c4 _,h2⟩
 have hs:=sort47 (S:=SKa) (l:=l) Tryz.laysF6a Tryz.isAgg57 Tryz.sizeOf57 hlen (by rw[Zt];exact XN hap) (λp _=>trivial) hpub1 qC;rw[Zt] at hs;refine((uz (n:=8)).2 hs).mono ?_;rintro e w2 ⟨v2,μ2,loc2,rfl,hP⟩
 gi_wp2
 go_ret
 have RB:=hP.fix 10000 ai (by decide) (by decide);obtain⟨vs2,Ez,Yq,hbl2⟩:=hP.obs 10000 _ rfl;rw[RB] at Ez hbl2;have hin:∀g,bI v=some g->lE v g:=λg hg=> .inl hg
 have hk:∀b,b<w.heap.size->w2.heap[b]? =w.heap[b]? :=λb hlt=>
  (hP.keep b (eW hlt hb.size) (by
   rintro⟨id,v',h1,h2⟩
   have:v'=v:=by
    simp only[gZ] at h1;split at h1
    .exact(fB h1).symm
    .cases h1
   rw[this] at h2
   have:=hbase b h2;omega)).trans (hb.block b hlt)
 refine⟨_,μ2,loc,rfl,?_⟩
 exact {
  ext:=⟨hP.ext.1,λb j x hx=>by
   rcases hP.ext.2 b j x hx with h|h|⟨id,_,h1,h2,hx,_⟩
   .exact .inl h
   .exact .inr (.inl (eE hb.size h))
   .simp only[gZ] at hx;split at hx
    .rename_i hm;simp at hm;omega
    .cases hx⟩
  xI:=hP.xI
  res:= .inr (.inr (.inr ⟨57,2,_,vs2,rfl,Ez,Yq,λg hg=>⟨.inl (hbase g (hin g hg)),(hbl2 g (hin g hg)).2,λid o h=>by cases h⟩⟩))
  obs:=λid o h=>by cases h
  apart:=λi j oi oj h=>by cases h
  keep:=λb hlt _=>hk b hlt
  fix:=λid h=>by cases h
  os:=hP.os.trans hb.os
  tape:=hP.tape.trans hb.tape
  output:=hP.output.trans hb.output
  grown:=eE hb.size hP.grown
  drawn:=λh=>h.elim }
end Go.Proofs.YtacapiamkgkkjaaGreatDoor.cl
set_option maxRecDepth 100000
set_option maxHeartbeats 2000000
namespace Go.Proofs.YtacapiamkgkkjaaGreatDoor.cl
open Go Go.AM Go.RowKit
def cmp119 (a b:ByteArray) (w:World):Calls P 119 #[.string a, .string b] w λe w'=>e= .returned (.int .i64 (Lib.compareBytes a.data.toList b.data.toList))/\w'=w:=by
 go_enter Tryz.func119,Tryz.ntmps119
 go_wp2
 rw[run_callFunc_extern Tryz.func170 (by kernel_rfl) (by kernel_rfl) (by kernel_rfl) (e:=Extern.BytealgCompare.compare) (by kernel_rfl),Lib.run_compareString];simp only[Result.andThen];rw[Oper.upon_value]
 go_wp2
 go_ret
 exact⟨rfl,rfl⟩
def cmp65 (a b:ByteArray) (w:World):Calls P 65 #[.string a, .string b] w λe w'=>e= .returned (.int .i64 (Lib.compareBytes a.data.toList b.data.toList))/\w'=w:=by
 go_enter Tryz.func65,Tryz.ntmps65
 go_wp2_with (go_at_call 119;refine(cmp119 _ _ _).mono ?_;rintro e w' ⟨rfl,rfl⟩)
 go_ret
 exact⟨rfl,rfl⟩
def Je:∀a b:List UInt8,Lib.compareBytes a b=Lx a b
 |[],[]=>rfl
 |[],_::_=>rfl
 |a::x,[]=>by have e:(a::x==([]:List UInt8))=false:=rfl;unfold Lx;rw[e];rfl
 |a::x,b::y=>by
  have z:=Je x y;unfold Lib.compareBytes;unfold Lx at z⊢;unfold Op.bytesLess;by_cases l:a<b
  .simp[l]
  .by_cases q:b<a
   .have w:a≠b:=λe=>l (e▸q)
    have e1:(a==b)=false:=by simpa using w
    simp[l,q,e1]
   .have B:a=b:=UInt8.le_antisymm (UInt8.not_lt.1 q) (UInt8.not_lt.1 l);subst B;rw[aA l,aA l,z];simp[l]
end Go.Proofs.YtacapiamkgkkjaaGreatDoor.cl
set_option maxRecDepth 1000000
set_option maxHeartbeats 4000000
namespace Go.Proofs.YtacapiamkgkkjaaGreatDoor.cl
open Go Go.AM Go.RowKit
def EY (cur:Array Value):Nat->List Value->Array Value
 |_,[]=>cur
 |o,v::r=>EY (cur.setIfInBounds o v) (o+1) r
def yb:∀(q:List Value) (o:Nat) (l:Array Value),(EY l o q).size=l.size
 |[],_,_=>rfl
 |v::r,o,l=>by rw[EY,yb r];simp
def Bt:∀(q:List Value) (o:Nat) (l:Array Value),o+q.length<=l.size->(EY l o q).toList=l.toList.take o++q++l.toList.drop (o+q.length)
 |[],o,l,_=>by simp[EY]
 |v::r,o,l,h=>by rw[bw] at h;rw[EY,Bt r (o+1) _ aH,Array.toList_setIfInBounds,dr,kH aH,Gz (aW _),GA af];simp[kS,jU,Nat.add_left_comm]
def zB {g:Nat} {e:TypeId}:∀(l:List Value) (o:Nat) {w:World} {cur:Array Value},w.heap[g]? =some (.cells cur e (0,0))->(w.setCells g o l).heap[g]? =some (.cells (EY cur o l) e (0,0))
 |[],_,_,_,h=>h
 |v::r,o,w,cur,h=>by refine zB r (o+1) (w:=w.setCell ⟨g,o,none⟩ v) (cur:=cur.setIfInBounds o v) ?_;show(w.heap.modify g _)[g]? =_;rw[yU,aB rfl,h];rfl
def xG (g:Nat):∀(l:List Value) (o:Nat) (w:World),(w.setCells g o l).tape=w.tape
 |[],_,_=>rfl
 |v::r,o,w=>xG g r (o+1) _
def tc (g:Nat):∀(l:List Value) (o:Nat) (w:World),(w.setCells g o l).heap.size=w.heap.size
 |[],_,_=>rfl
 |v::r,o,w=>(tc g r (o+1) _).trans (by show(w.heap.modify g _).size=_;simp)
def QM (w:World) (t e ty:TypeId) (z:Value) (G:P.underlying t=some (.slice e)) (H:∀w,(zeroValue e).run P w= .ok z w) (b o n c:Nat) (I:0<n) (Z:List Value) (B:(Builtin.zeroCells z.cells n).toList=Z) (q:∀v∈Z,v.oneCell'=true)
  (D:∀j,j<Z.length->(w.cell? ⟨b,o+j,none⟩).isSome=true) (F:∀j,j<Z.length->w.frozen? ⟨b,o+j,none⟩=false):
  (Builtin.clear_ #[t] ty #[.slice (some ⟨b,o,none⟩) n c]).run P w= .ok (.tuple #[]) (w.setCells b o Z):=by
 have l:=run_storeCells_cells (P:=P) b o Z 0 w (by simpa using D) (by simpa using F) q;simp only[lX] at l;obtain⟨m,rfl⟩:∃m,n=m+1:=⟨n-1,af⟩
 simp[Builtin.clear_,bJ G,H,B,l]
def zC:List Value:=[.string ⟨#[]⟩, .int .i64 0, .string ⟨#[]⟩, .slice none 0 0, .slice none 0 0, .slice none 0 0]
def Qf:Nat->List Value
 |0=>[]
 |n+1=>zC++Qf n
def Qb:∀n,(Qf n).length=n *6
 |0=>rfl
 |n+1=>by rw[Qf,cM,Qb n,nq,jU];rfl
def Qc:∀n,∀v∈Qf n,v.oneCell'=true
 |0,v,h=>by cases h
 |n+1,v,h=>by
  rcases bA.1 h with h|h
  .simp only[zC,aI,nF,pV] at h;rcases h with rfl|rfl|rfl|rfl|rfl|rfl<;>rfl
  .exact Qc n v h
def adj (n:Nat):(Builtin.zeroCells zC.toArray n).toList=Qf n:=by
 have key:∀n,(List.range (n *6)).map (λi=>zC.toArray[i % 6]!)=Qf n:=by intro n;induction n with
  |zero=>rfl
  |succ n l=>
   rw[nq,jU,wv,bZ,fk,Qf,<-l];congr 1;refine gR λi _=> ?_
   show zC.toArray[(6+i) % 6]! =_;rw[Nat.add_mod_left]
 rw[<-key n];unfold Builtin.zeroCells;simp[zC]
def XF {l:Mu}:∀n,cW l 6 (List.replicate n adk) (Qf n)
 |0=>rfl
 |n+1=>by
  rw[tu];have nl:∀k,rep l (.dy k []) (.slice none 0 0):=λk=>by rw[rep];exact⟨none,0,rfl,aW _,c4 _, .inl rfl⟩
  exact⟨zC,Qf n,rfl,⟨⟨_,_,rfl,by rw[rep],_,_,rfl,by rw[rep],_,_,rfl,by rw[rep],_,_,rfl,nl _,_,_,rfl,nl _,_,_,rfl,nl _,rfl⟩,λu q=>Qc 1 u (by simpa[Qf] using q)⟩,rfl,XF n⟩
def kU {w:Mu} {l:Nat}:∀(i:Nat) {xs:List (List AV)} {q:List Value},cW w l xs q->cW w l (xs.take i) (q.take (i *l))/\cW w l (xs.drop i) (q.drop (i *l))
 |0,xs,q,h=>by rw[wz];exact⟨rfl,h⟩
 |i+1,[],q,h=>by
  have:q=[]:=h
  subst this;rw[List.take_nil,List.take_nil,List.drop_nil,List.drop_nil];exact⟨rfl,rfl⟩
 |i+1,x::xs,q,h=>by
  obtain⟨B,ws,rfl,D,z,F⟩:=h;obtain⟨a,b⟩:=kU i F;have e:(i+1) *l=B.length+i *l:=by rw[nq,z,jU]
  rw[Gx,Gw,e,GF,As];exact⟨⟨B,ws.take (i *l),rfl,D,z,a⟩,b⟩
theorem zx {z:Mu} {w:Nat}:∀{xs q:List (List AV)} {l ws:List Value},cW z w xs l->cW z w q ws->cW z w (xs++q) (l++ws)
 |[],q,l,ws,h,k=>by
  have:l=[]:=h
  subst this;exact k
 |x::xs,q,l,ws,h,k=>by obtain⟨H,G,rfl,B,D,F⟩:=h;exact⟨H,G++ws,by rw[ew],B,D,zx F k⟩
def del72 {μ:Mu} {loc:Nat->Value} {w:World} {xs:List (List AV)} {i j:Nat} (hij:i<j) (hj:j<=xs.length) (oE:Lq μ w) (qC:ni w.heap.size (gZ False loc [10000]) μ loc w 10000 (.row 62 6 xs)):
  Calls P 72 #[loc 10000, .int .i64 i, .int .i64 j] w λe w'=>∃v μ' loc',e= .returned v/\fF False μ loc [10000] (.self ((xs.length-(j-i):Nat))) [(10000, .row 62 6 (xs.take i++xs.drop j++List.replicate (j-i) adk))] w v μ' loc' w':=by
 obtain⟨vs,hown,hrc,Y4⟩:=qC;have hvl:=dh hrc;have hv1:=kQ hrc;rcases hown.2 with⟨_,h0⟩|⟨g,cap,cur,e1,_,hg,hcap,hmax,hsz,Mv⟩
 .omega
 .obtain⟨hownB,Cr⟩:=Y4 g (by rw[e1];exact gU.2 rfl);rw[e1];obtain⟨i0,hi0,Ti,hz1,hz2⟩:=info_parts (show(P.info? 62).map (λi=>(i.zero,i.size,i.bytes))=some (some (.agg zC.toArray),6,112) by kernel_rfl);have hcz:cur.size=cap *6:=hsz;have Wc:∀k,k<xs.length *6->cur.toList[k]? =vs[k]? :=λk hk=>by
   rw[<-Mv,oP,aB hk]
  have hcell:∀k u,vs[k]? =some u->w.drew.cell? ⟨g,k,none⟩=some u:=λk u hk=>by have hkl:=(bP.1 hk).1;have:=(Wc k af).trans hk;rw[Array.getElem?_toList] at this;show w.cell? _=_;unfold World.cell?;simp[hg,this]
  have hsome:∀k,k<cap *6->(w.drew.cell? ⟨g,k,none⟩).isSome=true:=λk hk=>by show(w.cell? _).isSome=true;unfold World.cell?;simp[hg,hcz,hk]
  have hfroz:∀k,w.drew.frozen? ⟨g,k,none⟩=false:=λk=>by show w.frozen? _=false;unfold World.frozen?;simp[hg]
  obtain⟨news,hnews⟩:∃news,news=vs.drop (j *6):=⟨_,rfl⟩
  have hlen:news.length=(xs.length-j) *6:=by rw[hnews,gB,hvl,Nat.sub_mul]
  obtain⟨A,hA,hsrc⟩:∃A:Addr,(if cap=j then some (⟨g,0,none⟩:Addr) else some ⟨g,j *6,none⟩)=some A/\Hid (∀t u,news[t]? =some u->w.drew.cell? (A.add t)=some u):=by
   by_cases h:cap=j
   .refine⟨⟨g,0,none⟩,by simp[h],λt u hu=> ?_⟩;have h0:news.length=0:=by rw[hlen];omega
    rw[nS.1 h0] at hu;simp at hu
   .refine⟨⟨g,j *6,none⟩,by simp[h],λt u hu=> ?_⟩;rw[hnews,wq] at hu;rw[yX];exact hcell _ _ hu
  have s1:Hid (news.length=(xs.length-j) *6):=hlen;have s2:Hid (∀u∈news,u.oneCell'=true):=λu hu=>hv1 u (iK (by rw[<-hnews];exact hu))
  have s3:Hid (∀t,t<news.length->(w.drew.cell? ⟨g,0+i *6+t,none⟩).isSome=true/\w.drew.frozen? ⟨g,0+i *6+t,none⟩=false):=λt ht=>by rw[hlen] at ht;exact⟨hsome _ af,hfroz _⟩
  obtain⟨W1,hW1⟩:∃W1,W1=w.drew.setCells g (0+i *6) news:=⟨_,rfl⟩
  have hg1:W1.heap[g]? =some (.cells (EY cur (0+i *6) news) 62 (0,0)):=by rw[hW1];exact zB _ _ hg
  have aaB:∀k,k<cap *6->(W1.cell? ⟨g,k,none⟩).isSome=true:=λk hk=>by unfold World.cell?;simp[hg1,yb,hcz,hk]
  have aas:∀k,W1.frozen? ⟨g,k,none⟩=false:=λk=>by unfold World.frozen?;simp[hg1]
  have hcl:∀ty,(Builtin.clear_ #[23] ty #[.slice (some ⟨g,(i+(xs.length-j)) *6,none⟩) (xs.length-(i+(xs.length-j))) (cap-(i+(xs.length-j)))]).run P W1= .ok (.tuple #[]) (W1.setCells g ((i+(xs.length-j)) *6) (Qf (xs.length-(i+(xs.length-j))))):=λty=>QM W1 23 62 ty (.agg zC.toArray) Tryz.underlying23 Tryz.zeroValue62 g _ _ _ af _ (adj _) (Qc _) (λt ht=>by rw[Qb] at ht;exact aaB _ af) (λt ht=>aas _)
  have X:Aside (W1.heap[g]? =some (.cells (EY cur (0+i *6) news) 62 (0,0))):=hg1;have hW:Hid (W1=w.drew.setCells g (0+i *6) news):=hW1;have hic:i<=cap:=af;have hjc:j<=cap:=af;generalize hn:xs.length=n at *;have fin:Aside (∀W2,W2=W1.setCells g ((i+(n-j)) *6) (Qf (n-(i+(n-j))))->∃μ' loc',fF False μ loc [10000] (.self ((n-(j-i):Nat))) [(10000, .row 62 6 (xs.take i++xs.drop j++List.replicate (j-i) adk))] w (.slice (some ⟨g,0,none⟩) (i+(n-j)) cap) μ' loc' W2):=by
   rintro W2 rfl;have ez:n-(i+(n-j))=j-i:=af;have ek:(i+(n-j)) *6=i *6+news.length:=by rw[hlen,jw]
   have hzl:=Qb (j-i);have hs1:(EY cur (0+i *6) news).size=cap *6:=(yb _ _ _).trans hcz;have t1:=Bt news (0+i *6) cur (by rw[hlen];omega);have t2:=Bt (Qf (j-i)) ((i+(n-j)) *6) (EY cur (0+i *6) news) (by rw[hs1,hzl];omega);have hl0:(cur.toList.take (i *6)).length=i *6:=by rw[fC,tj,hcz];omega
   have hvt:vs.take (i *6)=cur.toList.take (i *6):=by rw[<-Mv,List.take_take,wC af]
   have t3:(EY cur (0+i *6) news).toList.take ((i+(n-j)) *6)=vs.take (i *6)++news:=by rw[t1,eN,ek,hvt];exact uO (by rw[cM,hl0])
   have t4:(EY (EY cur (0+i *6) news) ((i+(n-j)) *6) (Qf (j-i))).toList.take (n *6)=vs.take (i *6)++news++Qf (j-i):=by
    have hl:(vs.take (i *6)++news++Qf (j-i)).length=n *6:=by rw[cM,cM,hvt,hl0,hlen,hzl];omega
    rw[t2,t3];exact uO hl
   rw[ez];have hlx:(xs.take i++xs.drop j++List.replicate (j-i) adk).length=n:=aH;have hg2:=zB (Qf (j-i)) ((i+(n-j)) *6) hg1;obtain⟨r1,_⟩:=kU i hrc;obtain⟨_,r2⟩:=kU j hrc;rw[<-hnews] at r2;refine⟨μ,loc,SJ (w:=w) (cur:=cur) (n:=n) (us:=vs.take (i *6)++news++Qf (j-i)) oE e1 hcap hmax hsz hownB Cr hg2 (by rw[yb,hs1,hcz]) t4 (by rw[<-t4,fC,tj,yb,hs1];omega) (λb hb hne=> ?_) ?_ ?_ ?_ ?_ hlx (zx (zx r1 r2) (XF _)) (.inr ⟨_,_,_,_,rfl,e1,by omega,by congr 1;omega⟩)⟩
   .rw[hW1] at *;rw[World.heap_setCells_other _ _ _ _ (by rw[tc];exact hb) hne,World.heap_setCells_other _ _ _ _ (by exact hb) hne];rfl
   .rw[World.os_setCells,hW1,World.os_setCells];rfl
   .rw[xG,hW1,xG];rfl
   .rw[World.output_setCells,hW1,World.output_setCells];rfl
   .rw[tc,hW1,tc];exact aW _
  clear hW1 hg1 hsome hfroz aaB aas hcell Wc hnews hlen hown hrc Y4 Mv hsz hcz hg hv1 hvl oE
  go_enter Tryz.func72,Tryz.ntmps72
  go_wp2_with fail
  go_region_law (refine step_append_room rfl (.tmp 22) (.tmp 25) 23 rfl 62 i0 6 Tryz.underlying23 hi0 hz1 g 0 i cap (by simp[Act.eval,Act.put]) A (n-j) (cap-j) news (by simp[Act.eval,Act.put]) s1.out hsrc.out s2.out af s3.out ?_;rw[<-hW.out])
  go_wp2
  go_ret
  obtain⟨μ',loc',h⟩:=fin.out _ rfl;exact⟨_,μ',loc',rfl,h⟩
end Go.Proofs.YtacapiamkgkkjaaGreatDoor.cl
namespace Go.Proofs.YtacapiamkgkkjaaGreatDoor.cl
open Go Go.AM Go.RowKit
def YV:∀{xs:List (List AV)} {l:List (List UInt8)},strs xs=some l->xs=l.map oV:=by intro xs;induction xs with
 |nil=>intro l h;simp[strs] at h;subst h;rfl
 |cons c xs z=>
  intro l h;unfold strs at h;split at h
  .rename_i e;cases e
  .rename_i s B e;injection e with e1 q;subst e1 q;simp only[cv] at h;obtain⟨m,w,rfl⟩:=h;rw[z w];rfl
  .cases h
def post_of {z:Mu} {q:Nat->Value} {w D:World} {r:AV} {v:Value} (F:Lq z w) (l:Below w.heap.size w D) (G:rep z r v):fF False z q [] r [] w v z q D where
 ext:=Mu.ext.toL ⟨Mu.le.refl _,λ_ _ _ h=> .inl h⟩
 xI:=λb j x H=>by have h:=F b j x H;rw[jq (l.block b (sr h)) j];exact h
 res:= .inl G
 obs:=λid o h=>by cases h
 apart:=λi j I K h=>by cases h
 keep:=λb B _=>l.block b B
 fix:=λid h=>by cases h
 os:=l.os
 tape:=l.tape
 output:=l.output
 grown:=l.size
 drawn:=λh=>h.elim
def jj {D:Nat} {L:sI} {G:Mu} {l:Nat->Value} {w:World} {id e F:Nat} {xs:List (List AV)} (h:ni D L G l w id (.row e F xs)):fH (l id)=l id:=by
 obtain⟨H,q,_⟩:=h;rcases q.2 with⟨e1,_⟩|⟨g,z,B,e1,_⟩
 .rw[e1];rfl
 .rw[e1];rfl
def prim_ok {B:Mu}:iw False B P gL:=by
 intro g args cL r A9 z w μ U us hB G Q hap K;unfold gL at z;split at z
 .rename_i xs;obtain⟨N,z⟩:=b9 z;simp only[aM,bD] at z;obtain⟨rfl,rfl⟩:=z;obtain⟨R,H,rfl,D,q⟩:=K
  have:H=[]:=q
  subst this;exact .inl ⟨by decide,λO=>qb Tryz.func159 (by decide) (by rfl) _ O,ZQ (q:=False) (λh=>h) G D (ff N)⟩
 .rename_i xs;obtain⟨N,z⟩:=b9 z;simp only[aM,bD] at z;obtain⟨rfl,rfl⟩:=z;obtain⟨R,H,rfl,D,q⟩:=K
  have:H=[]:=q
  subst this;exact .inl ⟨by decide,λO=>qb Tryz.func111 (by decide) (by rfl) _ O,ZP (q:=False) (λh=>h) G D (ff N)⟩
 .rename_i xs;obtain⟨N,z⟩:=b9 z;simp only[aM,bD] at z;obtain⟨rfl,rfl⟩:=z;obtain⟨R,H,rfl,D,q⟩:=K
  have:H=[]:=q
  subst this;exact .inl ⟨by decide,λO=>qb Tryz.func31 (by decide) (by rfl) _ O,clone31 (q:=False) (λh=>h) G D (ff N)⟩
 .rename_i xs;obtain⟨N,z⟩:=b9 z;simp only[aM,bD] at z;obtain⟨rfl,rfl⟩:=z;obtain⟨R,H,rfl,D,q⟩:=K
  have:H=[]:=q
  subst this;exact .inl ⟨by decide,λO=>qb Tryz.func62 (by decide) (by rfl) _ O,clone62 (q:=False) (λh=>h) G D (ff N)⟩
 .rename_i xs;split at z
  .rename_i l hl;obtain⟨N,z⟩:=b9 z;simp only[aM,bD] at z;obtain⟨rfl,rfl⟩:=z;have hxs:=YV hl;subst hxs;obtain⟨R,H,rfl,D,q⟩:=K
   have:H=[]:=q
   subst this;have I:R=U 10000:=(show R=fH (U 10000) from D).trans (jj (Q 10000 _ rfl));subst I;exact .inl ⟨by decide,λO=>qb Tryz.func172 (by decide) (by rfl) _ O,sort80 (ff N) G (Q 10000 _ rfl)⟩
  .cases z
 .rename_i xs;split at z
  .rename_i l hl;obtain⟨N,z⟩:=b9 z;simp only[aK] at N;simp only[aM,bD] at z;obtain⟨rfl,rfl⟩:=z;obtain⟨R,H,rfl,D,q⟩:=K;obtain⟨u1,V,rfl,S,L⟩:=q
   have:V=[]:=L
   subst this;have F:rep μ (.fn 265 []) u1:=S;rw[rep.eq_def] at F;dsimp only at F;obtain⟨vs,rfl,hvs⟩:=F
   have:vs=[]:=hvs
   subst this;exact .inl ⟨by decide,λO=>qb Tryz.func263 (by decide) (by rfl) _ O,sortedA G hl N.1 (ff N.2) D⟩
  .cases z
 .rename_i a b;simp only[aM,bD] at z;obtain⟨rfl,rfl⟩:=z;obtain⟨R,H,rfl,D,q⟩:=K;obtain⟨u1,V,rfl,S,L⟩:=q
  have:V=[]:=L
  subst this;have I:rep μ (.str a) R:=D;have F:rep μ (.str b) u1:=S;rw[rep] at I F;subst I F;refine .inl ⟨by decide,λO=>qb Tryz.func65 (by decide) (by rfl) _ O,(cmp65 _ _ w).mono ?_⟩;rintro e w' ⟨rfl,rfl⟩;exact⟨_,μ,U,rfl,post_of G (ic _ _) (by rw[rep];exact aR (Value.int .i64) (Je a b))⟩
 .rename_i i j e xs;obtain⟨N,z⟩:=b9 z;simp only[aK,je] at N;obtain⟨⟨⟨hi,hij⟩,hj⟩,he⟩:=N;have he:=tq he;subst he;simp only[aM,bD] at z;obtain⟨rfl,rfl⟩:=z;obtain⟨R,H,rfl,D,q⟩:=K;obtain⟨u1,V,rfl,S,L⟩:=q;obtain⟨u2,us3,rfl,Y6,hus3⟩:=L
  have:us3=[]:=hus3
  subst this;have I:R=U 10000:=(show R=fH (U 10000) from D).trans (jj (Q 10000 _ rfl));subst I;have F:rep μ (.int .i64 i) u1:=S;have hu2':rep μ (.int .i64 j) u2:=Y6;rw[rep] at F hu2';subst F hu2';obtain⟨a,rfl⟩:=fU hi;obtain⟨b,rfl⟩:=fU (by omega:0<=j);have h:=del72 (i:=a) (j:=b) af af G (Q 10000 _ rfl);have e1:((b:Int)-(a:Int)).toNat=b-a:=af;rw[aV,aV,e1];exact .inl ⟨by decide,λO=>qb Tryz.func72 (by decide) (by rfl) _ O,h⟩
 .cases z
def blk_all {B:Mu}:∀f fn c,P.funcs[f]? =some fn->fn.body=some c->qV False B P (H f) fn.ntmps c:=λf fn c _ _=>qV.none (aay f) c
end Go.Proofs.YtacapiamkgkkjaaGreatDoor.cl
set_option maxRecDepth 100000
namespace Go.Proofs.YtacapiamkgkkjaaGreatDoor.cl
open Go Go.AM Go.RowKit Go.ChangeShapes Go.WideShapes Go.ChangeAt
def own:ownKnob Tryz.prog.godebug=none:=by kernel_rfl
def Vg (q:Array Value):Obj->Obj
 | .cells _ t l=> .cells q t l
 |o=>o
noncomputable def FU (l:Os):World:=
 {World.holding Tryz.prog l ⟨#[], #[],[]⟩ with heap:=(((World.holding Tryz.prog l ⟨#[], #[],[]⟩).heap.modify 1 (Vg #[.int .u8 0, .int .u8 1, .int .u8 56, .int .u8 2, .int .u8 57, .int .u8 49, .int .u8 28, .int .u8 3, .int .u8 61, .int .u8 58, .int .u8 42, .int .u8 50, .int .u8 38, .int .u8 29, .int .u8 17, .int .u8 4, .int .u8 62, .int .u8 47, .int .u8 59, .int .u8 36, .int .u8 45, .int .u8 43, .int .u8 51, .int .u8 22, .int .u8 53, .int .u8 39, .int .u8 33, .int .u8 30, .int .u8 24, .int .u8 18, .int .u8 12, .int .u8 5, .int .u8 63, .int .u8 55, .int .u8 48, .int .u8 27, .int .u8 60, .int .u8 41, .int .u8 37, .int .u8 16, .int .u8 46, .int .u8 35, .int .u8 44, .int .u8 21, .int .u8 52, .int .u8 32, .int .u8 23, .int .u8 11, .int .u8 54, .int .u8 26, .int .u8 40, .int .u8 15, .int .u8 34, .int .u8 20, .int .u8 31, .int .u8 10, .int .u8 25, .int .u8 14, .int .u8 19, .int .u8 9, .int .u8 13, .int .u8 8, .int .u8 7, .int .u8 6])).modify 2 (Vg #[.int .u64 1, .int .u64 10, .int .u64 100, .int .u64 1000, .int .u64 10000, .int .u64 100000, .int .u64 1000000, .int .u64 10000000, .int .u64 100000000, .int .u64 1000000000, .int .u64 10000000000, .int .u64 100000000000, .int .u64 1000000000000, .int .u64 10000000000000, .int .u64 100000000000000, .int .u64 1000000000000000, .int .u64 10000000000000000, .int .u64 100000000000000000, .int .u64 1000000000000000000, .int .u64 10000000000000000000])).modify 3 (Vg #[.int .u8 0, .int .u8 1, .int .u8 28, .int .u8 2, .int .u8 29, .int .u8 14, .int .u8 24, .int .u8 3, .int .u8 30, .int .u8 22, .int .u8 20, .int .u8 15, .int .u8 25, .int .u8 17, .int .u8 4, .int .u8 8, .int .u8 31, .int .u8 27, .int .u8 13, .int .u8 23, .int .u8 21, .int .u8 19, .int .u8 16, .int .u8 7, .int .u8 26, .int .u8 12, .int .u8 18, .int .u8 6, .int .u8 11, .int .u8 5, .int .u8 10, .int .u8 9]) }
