/- slices.Clone, taken as a primitive, is sound. -/
import Derived.Test.YthppjmoncapdfaaGreatDoorClT
import Derived.Test.YthppjmoncapdfaaGreatDoorClXb
import Derived.WalkKit
import Derived.Lib.SliceRun
import Derived.Lib.Walk
import Derived.Shelf.RegionOpenPlain
import Derived.Deep.LoopGhost
import Derived.RangeFuncWrites
import Derived.RangeFuncLeaves
import Derived.RangeFuncBox
import Derived.RangeFuncNested
import Derived.OwnWalkIn
import Derived.TacticsInMore
import Derived.LoopNIn
import Derived.LoopIn
import Derived.Test.YthppjmoncapdfaaGreatDoorClQd
set_option maxRecDepth 100000
set_option maxHeartbeats 2000000
set_option linter.all false
open Go.IntKind (wrap)
open Int (toNat)
open List (length replicate)
namespace Go.Proofs.YthppjmoncapdfaaGreatDoor.cl
open Go Go.AM Go.RowKit
theorem D5 {μ:Mu} {loc:Nat→Value} {w w':World} {e sz:Nat} {xs:List (List AV)} {v:Value} {vs:List Value} {q:Qp} (hq:q.p→False) (gp:HW μ w) (hb:Below w.heap.size w w') (hown:w'.ownsRow w.heap.size e sz v xs.length vs) (hrc:c4 μ sz xs vs):
  gd q μ loc [] (.mu [.mu [.self e, .eH sz xs]]) [] w v μ loc w' where
 ext:=⟨Mu.le.refl _,fun _ _ _ h=> .inl h⟩
 uI:=fun b j x hx=>by
  have h:=gp b j x hx;rw [fZ (hb.block b (mq h)) j];exact h
 res:= .inr (.inr ⟨e,sz,xs,vs,rfl,by
  refine ⟨hown.1,?_⟩;rcases hown.2 with h|⟨g,cap,cur,h1,_,h2⟩
  ·exact .inl h
  ·exact .inr ⟨g,cap,cur,h1,dh _,h2⟩,hrc,fun g hg=>by
  have hge:w.heap.size≤g:=by
   rcases hown.2 with ⟨h,_⟩|⟨g',cap,cur,h,h2,_⟩
   ·rw [h] at hg;cases hg
   ·rw [h] at hg;cases hg;exact h2
  refine ⟨hge,fun j=> ?_,fun id o h=>by cases h⟩;cases hm:μ g j with
  |none=>rfl
  |some x=>have:=mq (gp _ _ _ hm);omega⟩)
 obs:=fun id o h=>by cases h
 apart:=fun i j oi oj h=>by cases h
 keep:=fun b hlt _=>hb.block b hlt
 fix:=fun id h=>by cases h
 os:=hb.os
 tape:=hb.tape
 output:=hb.output
 grown:=hb.size
 drawn:=fun h=>(hq h).elim
theorem PE {μ:Mu} {w:World} {sz:Nat} {xs:List (List AV)} {a:Addr} (gp:HW μ w) (hA:xs.length=0∨∃b off,some a=some ⟨b,off,none⟩∧kS μ sz b xs off):
  ∃us,c4 μ sz xs us∧(∀u∈us,u.oneCell'=true)∧∀j u,us[j]? =some u→w.cell? (a.add j)=some u:=by
 rcases hA with h0|⟨b,off,ea,hrow⟩
 ·have:xs=[]:=by simpa using h0
  subst this;exact ⟨[],rfl,by simp,by simp⟩
 ·cases ea
  obtain ⟨us,k1,k2⟩:=tP hrow;have h1:=lX k1
  exact ⟨us,k1,h1,fun j u hj=>by
   rw [Addr.add_lit]
   exact tD (gp _ _ _ (k2 j u hj)) (h1 u (aT hj))⟩
theorem Vf {μ:Mu} {loc:Nat→Value} {w:World} {xs:List (List AV)} {u:Value} {q:Qp} (hq:q.p→False) (gp:HW μ w) (hu:rep μ (.eH 1 xs) u) (hbig:xs.length *8≤140737488355328):
  Calls P 57 #[u] w fun e w'=>∃v μ' loc',e= .returned v∧gd q μ loc [] (.mu [.mu [.self 3, .eH 1 xs]]) [] w v μ' loc' w':=by
 rw [rep.eq_def] at hu;dsimp only at hu;obtain ⟨A,c,rfl,hc1,Pb,hA⟩:=hu;have qn:∀(w:World) (a:Option Addr) (n c n' c':Nat),(binOp .eql 60 (.slice a n c) (.slice none n' c')).run P w= .ok (.bool a.isNone) w:=fun w a n c n' c'=>Lib.run_eql_slice_nil w _ _ a n c n' c' Tryz.underlying60
 cases A with
 |none=>
  have h0:xs=[]:=by
   rcases hA with h|⟨b,off,e,_⟩
   ·simpa using h
   ·cases e
  subst h0
  go_enter Tryz.func57,Tryz.ntmps57
  go_wp2
  go_ret
  exact ⟨_,μ,loc,rfl,D5 hq gp (jo _ _) (vs:=[]) ⟨rfl, .inl ⟨rfl,rfl⟩⟩ rfl⟩
 |some a=>
  obtain ⟨us,qW,h1,hcell⟩:=PE gp hA;have Hj:=dr qW;obtain ⟨i0,hi,XS,hz1,hz2⟩:=info_parts (show (P.info? 3).map (fun i=>(i.zero,i.size,i.bytes))=some (some (.int .i64 0),1,8) by kernel_rfl);have u60:∀w,Sem.run P (underlying 60) w= .ok (TypeDesc.slice 3) w:=bz Tryz.underlying60
  go_enter Tryz.func57,Tryz.ntmps57
  go_wp2_with (at_builtin;refine wpList_append_own _ rfl _ _ 60 rfl w.heap.size 3 i0 (.int .i64 0) 1 8 Tryz.underlying60 hi XS hz1 hz2 rfl (by decide) _ _ _ rfl (World.ownsRow_made w #[] 0 (aS _) (dh _) rfl) a xs.length c us rfl ?qc1 ?qc2 h1 ?qc4 ?qc5 ?qc6 ?_)
  case qc1=>exact Hj
  case qc2=>exact fun j u hj=>Lib.cell?_alloc_some _ (hcell j u hj)
  case qc4=>omega
  case qc5=>omega
  case qc6=>simp
  intro v' w1 hown hgrow IZ
  go_wp2
  go_ret
  exact ⟨_,μ,loc,rfl,D5 hq gp (((jo _ w).alloc (aS _) _).grown hgrow (by simp) (by intro k hk;simp [Value.ownBlock] at hk;omega)) (by simpa using hown) qW⟩
theorem clone74 {μ:Mu} {loc:Nat→Value} {w:World} {xs:List (List AV)} {u:Value} {q:Qp} (hq:q.p→False) (gp:HW μ w) (hu:rep μ (.eH 2 xs) u) (hbig:xs.length *32≤140737488355328):
  Calls P 74 #[u] w fun e w'=>∃v μ' loc',e= .returned v∧gd q μ loc [] (.mu [.mu [.self 52, .eH 2 xs]]) [] w v μ' loc' w':=by
 rw [rep.eq_def] at hu;dsimp only at hu;obtain ⟨A,c,rfl,hc1,Pb,hA⟩:=hu;have qn:∀(w:World) (a:Option Addr) (n c n' c':Nat),(binOp .eql 22 (.slice a n c) (.slice none n' c')).run P w= .ok (.bool a.isNone) w:=fun w a n c n' c'=>Lib.run_eql_slice_nil w _ _ a n c n' c' Tryz.underlying22
 cases A with
 |none=>
  have h0:xs=[]:=by
   rcases hA with h|⟨b,off,e,_⟩
   ·simpa using h
   ·cases e
  subst h0
  go_enter Tryz.func74,Tryz.ntmps74
  go_wp2
  go_ret
  exact ⟨_,μ,loc,rfl,D5 hq gp (jo _ _) (vs:=[]) ⟨rfl, .inl ⟨rfl,rfl⟩⟩ rfl⟩
 |some a=>
  obtain ⟨us,qW,h1,hcell⟩:=PE gp hA;have Hj:=dr qW;obtain ⟨i0,hi,XS,hz1,hz2⟩:=info_parts (show (P.info? 52).map (fun i=>(i.zero,i.size,i.bytes))=some (some (.agg #[.int .i64 0, .slice none 0 0]),2,32) by kernel_rfl);have u22:∀w,Sem.run P (underlying 22) w= .ok (TypeDesc.slice 52) w:=bz Tryz.underlying22
  go_enter Tryz.func74,Tryz.ntmps74
  go_wp2_with (at_builtin;refine wpList_append_own _ rfl _ _ 22 rfl w.heap.size 52 i0 (.agg #[.int .i64 0, .slice none 0 0]) 2 32 Tryz.underlying22 hi XS hz1 hz2 rfl (by decide) _ _ _ rfl (World.ownsRow_made w #[] 0 (aS _) (dh _) rfl) a xs.length c us rfl ?qc1 ?qc2 h1 ?qc4 ?qc5 ?qc6 ?_)
  case qc1=>exact Hj
  case qc2=>exact fun j u hj=>Lib.cell?_alloc_some _ (hcell j u hj)
  case qc4=>omega
  case qc5=>omega
  case qc6=>simp
  intro v' w1 hown hgrow IZ
  go_wp2
  go_ret
  exact ⟨_,μ,loc,rfl,D5 hq gp (((jo _ w).alloc (aS _) _).grown hgrow (by simp) (by intro k hk;simp [Value.ownBlock] at hk;omega)) (by simpa using hown) qW⟩
end Go.Proofs.YthppjmoncapdfaaGreatDoor.cl
set_option maxRecDepth 100000
set_option maxHeartbeats 2000000
namespace Go.Proofs.YthppjmoncapdfaaGreatDoor.cl
open Go Go.AM Go.RowKit
attribute [local go_sem] yp
abbrev C2:Type:={ us:List Value // us.length=2∧∀u∈us,u.oneCell'=true }
def flat (l:List C2):List Value:=(l.map (·.1)).flatten
theorem Zs:∀{l:List C2} {k:Nat} {x:C2} {j:Nat} {u:Value},l[k]? =some x→x.1[j]? =some u→(flat l)[k *2+j]? =some u:=by
 intro l
 induction l with
 |nil=>intro k x j u h;simp at h
 |cons y l ih=>
  intro k x j u h hj;have hy:=y.2.1;simp only [flat,aP,rE];cases k with
  |zero=>
   simp only [C8,aG] at h;subst h;have:=(bD.1 hj).1;rw [di (by omega)];simpa using hj
  |succ k=>
   rw [gr (by omega),hy,show (k+1) *2+j-2=k *2+j by omega];exact ih (by simpa using h) hj
theorem UN (x:C2):∃a b,x.1=[a,b]∧a.oneCell'=true∧b.oneCell'=true:=by
 obtain ⟨us,h,h1⟩:=x
 match us,h with
 |[a,b],_=>exact ⟨a,b,rfl,h1 a (by simp),h1 b (by simp)⟩
theorem Bi {w:World} {c:Array Value} {t i:Nat} {v:Value} (hi:i<c.size) (ov:v.oneCell'=true):
  Sem.run P (store ⟨w.heap.size,i,none⟩ v) (w.alloc (.cells c t))= .ok () (w.alloc (.cells (c.setIfInBounds i v) t)):=by
 have hn:=World.alloc_heap_new w (.cells c t);have hc:(w.alloc (.cells c t)).cell? ⟨w.heap.size,i,none⟩=some c[i]:=by simp only [World.cell?,hn];simp [hi]
 have hf:(w.alloc (.cells c t)).frozen? ⟨w.heap.size,i,none⟩=false:=by simp only [World.frozen?,hn];simp
 rw [run_store _ _ _ _ _ ov,hc];simp [hf,World.setCell_alloc_new]
theorem two_new {w:World} {u0 u1:Value} {t:TypeId}:∀(j:Nat) (u:Value),[u0,u1][j]? =some u→(w.alloc (.cells #[u0,u1] t)).cell? ((⟨w.heap.size,0,none⟩:Addr).add j)=some u:=by
 intro j u hj;rw [Addr.add_lit];have:=World.alloc_heap_new w (.cells #[u0,u1] t);simp only [World.cell?,this];simpa using hj
theorem YE {n:Nat} (hn:1≤n) {Bs os n₀:Nat} {a:Option Addr} {cap:Nat} {xs:List C2} {w:World} (hcap:xs.length<4611686018427387904) (hB:Bs<n₀) (hn₀:n₀≤w.heap.size)
  (hBs:w.cell? ⟨Bs,os,none⟩=some (.slice a xs.length cap)) (hc:xs=[]∨∃b off,a=some ⟨b,off,none⟩∧b<n₀∧∀j u,(flat xs)[j]? =some u→w.cell? ⟨b,off+j,none⟩=some u):
  SeqStopsK Fence.wide n P 214 #[.pointer (some ⟨Bs,os,none⟩)] (fun x:C2=> #[.agg x.1.toArray]) (Below n₀) (fun ys=>ys=xs) (fun _=>True) xs.length w:=fun l J Jx W hW hJ _ hY h0=>by
 have hw:Below n₀ w W:=hW.mono hn₀
 replace hBs:=(hw.cell (p:=⟨Bs,os,none⟩) hB).trans hBs
 replace hc:xs=[]∨∃b off,a=some ⟨b,off,none⟩∧b<n₀∧∀j u,(flat xs)[j]? =some u→W.cell? ⟨b,off+j,none⟩=some u:=hc.imp id fun ⟨b,off,e,hb,h⟩=>⟨b,off,e,hb,fun j u hj=>(hw.cell (p:=⟨b,off+j,none⟩) hb).trans (h j u hj)⟩
 replace hn₀:=dB hn₀ hW.size
 refine ux Tryz.func214 rfl trivial ?_ rfl;simp only [Tryz.ntmps214,mY,bg,eE,Nat.reduceAdd,Nat.reduceSub,pH,pI,pJ,pK,dU,ff]
 gi_wp2
 gi_loopw [7] (fun i wr=>∃k:Nat,k≤xs.length∧i= .int .i64 k∧J (xs.take k) wr∧Below n₀ W wr)
  (fun i _=>xs.length-(intOf i).toNat)
 case atStart=>exact ⟨0,dh _,rfl,by simpa using h0,jo _ _⟩
 case round=>
  obtain ⟨k,hk,rfl,hJs,hnx⟩:=hrel;by_cases hlt:k<xs.length
  ·obtain ⟨u0,u1,hx,o0,o1⟩:=UN xs[k]
   obtain ⟨b,off,rfl,hb,hcc⟩:∃b off,a=some ⟨b,off,none⟩∧b<n₀∧∀j u,(flat xs)[j]? =some u→W.cell? ⟨b,off+j,none⟩=some u:=by
    rcases hc with h|h
    ·subst h;simp at hlt
    ·exact h
   have hg:=aH hlt;have hc0:wr.cell? ⟨b,off+k *2,none⟩=some u0:=(hnx.cell (p:=⟨b,off+k *2,none⟩) hb).trans (hcc _ _ (Zs (j:=0) hg (by rw [hx];rfl)));have hc1:wr.cell? ⟨b,off+k *2+1,none⟩=some u1:=(hnx.cell (p:=⟨b,off+k *2+1,none⟩) hb).trans (hcc _ _ (Zs (j:=1) hg (by rw [hx];rfl)));have hs0:=Bi (w:=wr) (c:= #[.int .i64 0, .int .i64 0]) (t:=54) (i:=0) (by decide) o0;have hs1:=Bi (w:=wr) (c:= #[u0, .int .i64 0]) (t:=54) (i:=1) (by simp) o1;have hs0':Sem.run P (store ⟨wr.heap.size,0,none⟩ u0) (wr.alloc (.cells #[.int .i64 0, .int .i64 0] 54))= .ok () (wr.alloc (.cells #[u0, .int .i64 0] 54)):=hs0;have hs1':Sem.run P (store ⟨wr.heap.size,1,none⟩ u1) (wr.alloc (.cells #[u0, .int .i64 0] 54))= .ok () (wr.alloc (.cells #[u0,u1] 54)):=hs1;have hJ2:J (xs.take k) (wr.alloc (.cells #[u0,u1] 54)):=hJ _ wr _ none hJs (World.grownBy_alloc _ _ _) (fun r e=>by cases e);obtain ⟨fn,tmps,assign,body,hy,hR⟩:=hY _ xs[k] _ hJ2 (by simp;omega);rw [hx] at hy
   gi_wp2
   refine hR.mono ?_
   rintro e W3 (⟨rfl,hJ3,hk3⟩|⟨rfl,hJ3⟩)
   ·gi_wp2
    go_roundw
    case rel=>exact ⟨k+1,by omega,by simp,by rw [c8,hg];exact hJ3,(hnx.alloc (dB hn₀ hnx.size) _).trans hk3⟩
    case measure=>simp [intOf];omega
   ·gi_wp2
    refine bodyPost_ret (results_none rfl _ _ _) rfl ?_;exact ⟨⟨_,rfl⟩, .inr ⟨_,trivial,hJ3⟩⟩
  ·obtain rfl:k=xs.length:=by omega
   gi_wp2
   go_end0
   exact ⟨⟨_,rfl⟩, .inl ⟨_,rfl,by simpa using hJs⟩⟩
def Coll (w0:World) (Bs:Nat) (pre:List C2) (W:World):Prop:=
 (∃v,Boxed W Bs 50 v∧W.ownsRow w0.heap.size 54 2 v pre.length (flat pre)∧True)∧Below w0.heap.size w0 W
theorem PK (w0:World) (Bs B:Nat) (hB:w0.heap.size≤B):OwnFrom B (Coll w0 Bs):=
 OwnFrom.and (Own.from (holdsRow_own w0.heap.size Bs 50 54 2 (fun s:List C2=>s.length) flat (fun _ _=>True)) _) (ownFrom_below (aS _) hB)
def Elt (fv b:Value) (x:C2) (a':Act) (W:World):Prop:=
 ∃q,W.heap[q]? =some (.cells x.1.toArray 54 (0,0))∧a'={ tmps:= #[.slice none 0 0,fv,b,undef, .slice none 0 0, .pointer (some ⟨q,0,none⟩),fv, .agg x.1.toArray,undef,undef,undef,undef,undef],defers:=[] }
theorem elt_own (fv b:Value) (B:Nat) (x:C2) (a':Act):OwnFrom B (fun (_:Unit) W=>Elt fv b x a' W):=fun s A C row hs hg hr=>by
 obtain ⟨q,h,e⟩:=hs;refine ⟨q,(hg.block q (eG.1 h).1 fun e=> ?_).trans h,e⟩;obtain ⟨_,o,ho,hc⟩:=hr q e.symm;rw [h] at ho;cases ho;cases hc
theorem W9 {n:Nat} (hn:3≤n) {Bs os:Nat} {a:Option Addr} {cap:Nat} {xs:List C2} {w:World} (hlen:xs.length *16≤140737488355328) (hB:Bs<w.heap.size)
  (hBs:w.cell? ⟨Bs,os,none⟩=some (.slice a xs.length cap)) (hc:xs=[]∨∃b off,a=some ⟨b,off,none⟩∧b<w.heap.size∧∀j u,(flat xs)[j]? =some u→w.cell? ⟨b,off+j,none⟩=some u):
  CallsIn Fence.wide n P 254 #[.slice none 0 0, .func (.func 214) #[] #[.pointer (some ⟨Bs,os,none⟩)]] w fun e w'=>∃v,e= .returned v∧w'.ownsRow w.heap.size 54 2 v xs.length (flat xs)∧Below w.heap.size w w':=by
 have h1:1≤n:=by omega
 refine callsIn_of_wp_marks Tryz.func254 rfl trivial ?_ rfl;simp only [Tryz.ntmps254,mY,bg,eE,Nat.reduceAdd,Nat.reduceSub,pH,pI,pJ,pK,dU,ff]
 gi_wp2
 have MP:Below w.heap.size w (w.alloc (.cells #[.slice none 0 0] 50)):=(jo _ w).alloc (aS _) _;obtain ⟨i0,hi,XS,hz1,hz2⟩:=info_parts (show (P.info? 54).map (fun i=>(i.zero,i.size,i.bytes))=some (some (.agg #[.int .i64 0, .int .i64 0]),2,16) by kernel_rfl);refine wpIn_rangeFunc_ownH rfl h1 (gf:=214) (lb:= #[.pointer (some ⟨Bs,os,none⟩)]) rfl trivial (enters_of Tryz.func214 (by kernel_rfl) rfl)
  (YE (n:=n-1) (by omega) (w:=w.alloc (.cells #[.slice none 0 0] 50)) (a:=a) (cap:=cap) (xs:=xs) (n₀:=w.heap.size) (by omega) hB (by simp) ((MP.cell (p:=⟨Bs,os,none⟩) hB).trans hBs) (hc.imp id fun ⟨b,off,e,hb,h⟩=>⟨b,off,e,hb,fun j u hj=>(MP.cell (p:=⟨b,off+j,none⟩) hb).trans (h j u hj)⟩))
  belowK_t (belowK_b (by simp)) (jo _ _) (fun _=>rfl)
  (Coll w w.heap.size) (fun _ _ _=>False) (PK _ _ _ (by simp)) (fun _ _ _ _ _ hs _ _=>hs)
  ⟨⟨_,Boxed.new _ _ _,⟨rfl, .inl ⟨rfl,rfl⟩⟩,trivial⟩,MP⟩
  (Elt (.func (.func 214) #[] #[.pointer (some ⟨Bs,os,none⟩)]) (.pointer (some ⟨w.heap.size,0,none⟩))) (elt_own _ _ _) ?assign ?body ?done ?stop
 case assign=>
  intro l pre x W K hI hK;obtain ⟨u0,u1,hx,o0,o1⟩:=UN x;have hs0:=Bi (w:=W) (c:= #[.int .i64 0, .int .i64 0]) (t:=54) (i:=0) (by decide) o0;have hs1:=Bi (w:=W) (c:= #[u0, .int .i64 0]) (t:=54) (i:=1) (by simp) o1;have hs0':Sem.run P (store ⟨W.heap.size,0,none⟩ u0) (W.alloc (.cells #[.int .i64 0, .int .i64 0] 54))= .ok () (W.alloc (.cells #[u0, .int .i64 0] 54)):=hs0;have hs1':Sem.run P (store ⟨W.heap.size,1,none⟩ u1) (W.alloc (.cells #[u0, .int .i64 0] 54))= .ok () (W.alloc (.cells #[u0,u1] 54)):=hs1;rw [hx]
  gi_wp2
  refine hK _ _ ((KeepsOthers.alloc _ _).from _) ((jo _ _).alloc hI.2.size _) (PK _ _ _ hI.2.size _ W _ none hI (World.grownBy_alloc _ _ _) (fun r e=>by cases e)) ⟨W.heap.size,by rw [hx];exact World.alloc_heap_new _ _,by rw [hx]⟩
 case body=>
  rintro l pre x a' W hl _ ⟨⟨v,hv,hrow,_⟩,hB⟩ ⟨q,hq,rfl⟩ hlen
  obtain ⟨u0,u1,hx,o0,o1⟩:=UN x;rw [hx] at hq⊢;have c0:=hv.cell;have cq0:W.cell? ⟨q,0,none⟩=some u0:=by simp [World.cell?,hq]
  have cq1:W.cell? ⟨q,1,none⟩=some u1:=by simp [World.cell?,hq]
  have CL:pre.length+1≤xs.length:=hlen
  gi_wp2_with (first
   |(gi_at_builtin;refine wpListIn_append_own _ rfl _ _ 50 rfl w.heap.size 54 i0 (.agg #[.int .i64 0, .int .i64 0]) 2 16 Tryz.underlying50 hi XS hz1 hz2 rfl (by decide) _ _ _ rfl (hrow.alloc _) ⟨W.heap.size,0,none⟩ 1 1 [u0,u1] rfl rfl two_new (by simp [o0,o1]) (by unfold maxLen;omega) (by omega) (by have:=hB.size;simp;omega) ?_;intro v' w3 hown' hg3 hnil3
     obtain ⟨g,cap',rfl⟩:=ownsRow_succ hown';obtain ⟨b1,b2,b3,b4,b5⟩:=Boxed.appended hv (by decide) hrow hB.size (aS _) hown' hg3;have c3:=b1.cell
     have f3:=b1.frozen)
   |gi_in)
  exact ⟨b4.from _,b5,⟨_,b2,by simpa [flat,hx] using b3,trivial⟩,hB.trans b5⟩
 case done=>
  rintro D ys W hD rfl ⟨⟨v,h1,h2,_⟩,h3⟩ hK
  have c0:=h1.cell
  gi_wp2
  refine ⟨by simp, .inl ⟨_,_,rfl,run_takeDeferred hK,?_⟩⟩;exact ⟨_,results_tmp rfl _ _ _,_,rfl,ownsRow_putObj h2 _ hK rfl,h3.trans (belowK_b (w:=w) (aS _) W D _ _ (by simp at hD;omega) hK rfl rfl)⟩
 case stop=>
  rintro D c pre W _ _ h _
  exact h.elim
theorem SY {n:Nat} (hn:4≤n) {Bs os:Nat} {a:Option Addr} {cap:Nat} {xs:List C2} {w:World} (hlen:xs.length *16≤140737488355328) (hB:Bs<w.heap.size)
  (hBs:w.cell? ⟨Bs,os,none⟩=some (.slice a xs.length cap)) (hc:xs=[]∨∃b off,a=some ⟨b,off,none⟩∧b<w.heap.size∧∀j u,(flat xs)[j]? =some u→w.cell? ⟨b,off+j,none⟩=some u):
  CallsIn Fence.wide n P 212 #[.func (.func 214) #[] #[.pointer (some ⟨Bs,os,none⟩)]] w fun e w'=>∃v,e= .returned v∧w'.ownsRow w.heap.size 54 2 v xs.length (flat xs)∧Below w.heap.size w w':=by
 have h1:1≤n:=by omega
 have hf:Fence.wide.fn 254:=trivial;refine ux Tryz.func212 rfl trivial ?_ rfl;simp only [Tryz.ntmps212,mY,bg,eE,Nat.reduceAdd,Nat.reduceSub,pH,pI,pJ,pK,dU,ff]
 gi_wp2_with (gi_at_call 254;refine (W9 (n:=n-1) (by omega) hlen hB hBs hc).mono ?_;rintro e w' ⟨v,rfl,hrow,hb⟩)
 go_ret
 exact ⟨v,rfl,hrow,hb⟩
end Go.Proofs.YthppjmoncapdfaaGreatDoor.cl
set_option maxRecDepth 100000
set_option maxHeartbeats 2000000
namespace Go.Proofs.YthppjmoncapdfaaGreatDoor.cl
open Go Go.AM Go.RowKit
attribute [local go_sem] yp
def Al.c2 {S:SK} {μ:Mu} (x:Al S μ):C2:=⟨x.cells,x.len,x.one⟩
theorem Vp {S:SK} {μ:Mu} (mZ:List (Al S μ)):flat (mZ.map Al.c2)=(mZ.map Al.cells).flatten:=by
 simp [flat,Al.c2,kD]
theorem Yu {μ:Mu} {loc:Nat→Value} {w:World} {xs:List (List AV)} {l:List (Int×Int)} {u:Value} (gp:HW μ w) (hl:wq xs=some l) (hap:Ib l=true) (hlen:l.length≤1073741824) (hu:rep μ (.fn 214 [.ref [.eH 2 xs]]) u):
  Calls P 165 #[u, .func (.func 167) #[] #[]] w fun e w'=>∃v μ' loc',e= .returned v∧gd False μ loc [] (.mu [.mu [.self 54, .eH 2 ((mz ltA l).map PX)]]) [] w v μ' loc' w':=by
 have hxs:=EL hl;subst hxs;rw [rep.eq_def] at hu;dsimp only at hu;obtain ⟨vs,rfl,p,vs',rfl,hp,aan⟩:=hu;have:vs'=[]:=aan;subst this;rw [rep.eq_def] at hp;dsimp only at hp;obtain ⟨b,off,cs,rfl,⟨sl,cs',rfl,DR,hcs'⟩,h1c,hc⟩:=hp;have:cs'=[]:=hcs';subst this;have hsl0:=hc 0 sl rfl;rw [oC] at hsl0;rw [rep.eq_def] at DR;dsimp only at DR;obtain ⟨A,c,rfl,hc1,Pb,hA⟩:=DR;have hcell:=tD (gp _ _ _ hsl0) rfl;have hlt:=mq (gp _ _ _ hsl0);obtain ⟨mZ,ha1,hcc⟩:∃mZ:List (Al SKa μ),mZ.map (fun x=>x.1.1)=l∧(mZ.map Al.c2=[]∨∃b off,A=some ⟨b,off,none⟩∧b<w.heap.size∧∀j u,(flat (mZ.map Al.c2))[j]? =some u→w.cell? ⟨b,off+j,none⟩=some u):=by
  rcases hA with h0|⟨b',off',ea,hrow⟩
  ·have:l=[]:=by simpa using h0
   subst this;exact ⟨[],rfl, .inl rfl⟩
  ·obtain ⟨us,k1,k2⟩:=tP hrow
   have k3:=lX k1;obtain ⟨mZ,e1,e2⟩:=Zb (S:=SKa) (l:=l) (fun p _=>trivial) k1;refine ⟨mZ,e1,?_⟩;cases hl0:mZ with
   |nil=>exact .inl rfl
   |cons x0 als0=>
    rw [←hl0];refine .inr ⟨b',off',ea,?_,fun j u hj=> ?_⟩
    ·have hx:=x0.len
     obtain ⟨u0,E1⟩:∃u0,us[0]? =some u0:=by
      rw [e2,hl0];cases hx':x0.cells with
      |nil=>rw [hx'] at hx;simp at hx
      |cons a t=>exact ⟨a,by simp [hx']⟩
     exact mq (gp _ _ _ (k2 0 u0 E1))
    ·rw [Vp,←e2] at hj
     exact tD (gp _ _ _ (k2 j u hj)) (k3 u (aT hj))
 have hal:(mZ.map Al.c2).length=l.length:=by rw [←ha1];simp
 have MT:(l.map PX).length=(mZ.map Al.c2).length:=by rw [hal];simp
 rw [MT] at hcell;refine (oQ (n:=9)).1 ?_;have hf1:Fence.wide.fn 212:=trivial;have hf2:Fence.wide.fn 213:=trivial;have hn:1≤9:=by decide
 refine ux Tryz.func165 rfl trivial ?_ rfl;simp only [Tryz.ntmps165,mY,bg,eE,Nat.reduceAdd,Nat.reduceSub,pH,pI,pJ,pK,dU,ff]
 gi_wp2_with (gi_at_call 212;refine (SY (n:=8) (by omega) (xs:=mZ.map Al.c2) (by omega) hlt hcell hcc).mono ?_;rintro e w1 ⟨v,rfl,hrow,hb⟩)
 have I1:HW μ w1:=fun b j x hx=>by
  have h:=gp b j x hx;rw [fZ (hb.block b (mq h)) j];exact h
 have hbase:∀g,jH v g→w.heap.size≤g:=fun g hg=>by
  rcases hrow.2 with ⟨e,_⟩|⟨g',cap,cur,e,h2,_⟩
  ·rw [e] at hg;rcases hg with hg|⟨us,hg,_⟩<;>cases hg
  ·rw [e] at hg
   rcases hg with hg|⟨us,hg,_⟩
   ·cases hg;exact h2
   ·cases hg
 have tR:∀g,jH v g→∀j,μ g j=none:=fun g hg j=>by
  cases hm:μ g j with
  |none=>rfl
  |some x=>have:=mq (gp _ _ _ hm);have:=hbase g hg;omega
 have hrc:c4 μ 2 (l.map PX) (flat (mZ.map Al.c2)):=by
  rw [Vp,←ha1,eO];exact acf mZ
 have dG:mE w1.heap.size (jV False (fun _=>v) [10000]) μ (fun _=>v) w1 10000 (.row 54 2 (l.map PX)):=by
  refine ⟨_,?_,hrc,fun g hg=>⟨.inr ⟨v,by simp [jV],hg⟩,tR g hg⟩⟩;rw [MT];refine ⟨hrow.1,?_⟩;rcases hrow.2 with h|⟨g,cap,cur,h1,_,h2⟩
  ·exact .inl h
  ·exact .inr ⟨g,cap,cur,h1,dh _,h2⟩
 have hs:=acA (S:=SKa) (l:=l) Tryz.laysF6a Tryz.isAgg54 Tryz.sizeOf54 hlen (by rw [Y4];exact W7 hap) (fun p _=>trivial) I1 dG;rw [Y4] at hs;refine ((oQ (n:=8)).2 hs).mono ?_
 rintro e w2 ⟨v2,μ2,qf,rfl,hP⟩
 gi_wp2
 go_ret
 have nQ:=hP.fix 10000 (by simp) (by decide);obtain ⟨vs2,DQ,MW,hbl2⟩:=hP.obs 10000 _ rfl;rw [nQ] at DQ hbl2;have hin:∀g,bu v=some g→jH v g:=fun g hg=> .inl hg
 have hk:∀b,b<w.heap.size→w2.heap[b]? =w.heap[b]? :=fun b hlt=>
  (hP.keep b (eX hlt hb.size) (by
   rintro ⟨id,v',h1,h2⟩
   have:v'=v:=by
    simp only [jV] at h1;split at h1
    ·exact (eS h1).symm
    ·cases h1
   rw [this] at h2
   have:=hbase b h2;omega)).trans (hb.block b hlt)
 refine ⟨_,μ2,loc,rfl,?_⟩
 exact {
  ext:=⟨hP.ext.1,fun b j x hx=>(hP.ext.2 b j x hx).imp id fun h=>dB hb.size h⟩
  uI:=hP.uI
  res:= .inr (.inr ⟨54,2,_,vs2,rfl,DQ,MW,fun g hg=>⟨hbase g (hin g hg),(hbl2 g (hin g hg)).2,fun id o h=>by cases h⟩⟩)
  obs:=fun id o h=>by cases h
  apart:=fun i j oi oj h=>by cases h
  keep:=fun b hlt _=>hk b hlt
  fix:=fun id h=>by cases h
  os:=hP.os.trans hb.os
  tape:=hP.tape.trans hb.tape
  output:=hP.output.trans hb.output
  grown:=dB hb.size hP.grown
  drawn:=fun h=>h.elim }
theorem Ya {q:Qp} {B:Mu}:ga q B P (fun _ _ _=>none):=by
 intro g args cD r gm hv;cases hv
noncomputable def aay (m:Nat):Option (AV×List (Nat×Ob)):=ot P cq.Hq (fun _ _ _=>none) 6 83 [.pv (.int .i64 (.ofNat m))] []
theorem aaz:((List.range 100).all fun m=>match aay m with
  |some (.str s,[])=>decide (s=PN m)
  |_=>false)=true:=by kernel_rfl
theorem aaA {m:Nat} (h:m<100):aay m=some (.str (PN m),[]):=by
 have:=cg.1 aaz m (by simpa using h);revert this;generalize aay m=r;intro this;split at this
 ·rw [lM this]
 ·cases this
theorem itoa_ok:ga False (fun _ _=>none) P (ot P cq.Hq (fun _ _ _=>none) 6):=
 FR ok (fun f fn c _ _=>mW.none (Tu f) c) Ya 6
end Go.Proofs.YthppjmoncapdfaaGreatDoor.cl
set_option maxRecDepth 100000
namespace Go.Proofs.YthppjmoncapdfaaGreatDoor.cl.cy
open Go Go.AM
def fk:dQ:=fun f args cD=>match f,args,cD with
 |57,[.pv (.eH 1 xs)],[]=>bif Nat.ble (xs.length *8) 140737488355328 then some (.mu [.mu [.self 3, .eH 1 xs]],[]) else none
 |2000000,[.pv (.int .i64 n), .pv (.eH 1 p), .row 10000],[(10000, .lp out)]=>match n with
  | .ofNat m=>bif Nat.blt m out.length then some (.bool true,[(10000, .lp (out.set m (.eH 1 p)))]) else none
  | .negSucc _=>none
 |_,_,_=>none
noncomputable abbrev Rn:dQ:=run P cq.Hq fk
def Q0:Unit→AV:=(fun (_:Unit)=>AV.mu [])
instance:gT Q0:=⟨fun a b h=>rfl⟩
def Q1:Bool→AV:=(fun (x:Bool)=>((.bool x):AV))
instance:gT Q1:=⟨fun a b h=>by
 simp only [Q1,AV.mp.injEq,AV.int.injEq,AV.str.injEq,AV.bool.injEq,AV.eH.injEq,AV.agg.injEq,AV.mu.injEq,dz,ig,fO] at h
 exact h⟩
def Q2:(List Int)→AV:=(fun (x:List Int)=>(AV.mu [AV.mu [AV.self 3,AV.eH 1 (List.map (bX .i64) x)]]:AV))
instance:gT Q2:=⟨fun a b h=>by
 simp only [Q2,AV.mp.injEq,AV.int.injEq,AV.str.injEq,AV.bool.injEq,AV.eH.injEq,AV.agg.injEq,AV.mu.injEq,dz,ig,fO] at h
 exact map_inj gT.inj _ _ h⟩
abbrev R460.T:Type:=List Int
abbrev R492.T:Type:=Unit
def acv:List (Nat×sk):=[(57,⟨_,Q2⟩),(82,⟨_,Q0⟩),(2000000,⟨_,Q1⟩)]
def oz:mG:={ elem:=BB elems,val:=BB vals,res:=BB acv }
noncomputable def f460 (s0:List Int):Option (List Int):=dec (EN Q2) (Rn 57 [(.pv (.eH 1 (List.map (bX .i64) s0)))] [])
abbrev zC.T:Type:=Unit×(List AV)
def zC:zC.T→Out:=(fun x:Unit×(List AV)=>((Q0 x.1,[(10000, .lp x.2)]):Out))
instance:gT zC:=⟨fun a b h=>by
 obtain ⟨a0,a1⟩:=a;obtain ⟨b0,b1⟩:=b;simp only [zC,br,dz,Ob.row.injEq,Ob.mp.injEq,Ob.lp.injEq,Ob.box.injEq,fO,ig] at h;have h0:a0=b0:=rfl;have h1:=h
 rw [h0,h1]⟩
noncomputable def f492 (a1:FSt) (iV:List AV):Option (Unit×(List AV)):=dec zC (Rn 82 [(.cl 2000000 [.r 10000]),(.pv (.ref (FSt.enc a1)))] [(10000,(.lp iV))])
noncomputable def Fx (v1:FSt) (i6:Int) (sR:List Bool) (j0:List Int) (pV:List (List Int)) (me:List AV):Option (Unit×(List AV)):=dec zC (qq P oz cq.Hq fk 82 4 [10000] [(0,(.cl 2000000 [.r 10000])),(1,(.pv (.ref (FSt.enc v1)))),(3,(.row 12)),(4,(.row 15)),(5,(.row 16)),(6,(.pv (.int .i64 i6)))] [(12,(.row 4 1 (List.map qO sR))),(15,(.row 3 1 (List.map (bX .i64) j0))),(16,(.row 60 1 (List.map (iB 1 (bX .i64)) pV))),(10000,(.lp me))])
noncomputable def CG (v1:FSt) (i6:Int) (v42:List cF) (GD v44:Int) (sR:List Bool) (j0:List Int) (pV:List (List Int)) (me:List AV):Option (Unit×(List AV)):=dec zC (qq P oz cq.Hq fk 82 8 [10000] [(0,(.cl 2000000 [.r 10000])),(1,(.pv (.ref (FSt.enc v1)))),(3,(.row 12)),(4,(.row 15)),(5,(.row 16)),(6,(.pv (.int .i64 i6))),(42,(.pv (.eH 2 (List.map cF.enc v42)))),(43,(.pv (.int .i64 GD))),(44,(.pv (.int .i64 v44)))] [(12,(.row 4 1 (List.map qO sR))),(15,(.row 3 1 (List.map (bX .i64) j0))),(16,(.row 60 1 (List.map (iB 1 (bX .i64)) pV))),(10000,(.lp me))])
abbrev Lh.T:Type:=Bool×(List AV)
def Lh:Lh.T→Out:=(fun x:Bool×(List AV)=>((Q1 x.1,[(10000, .lp x.2)]):Out))
instance:gT Lh:=⟨fun a b h=>by
 obtain ⟨a0,a1⟩:=a;obtain ⟨b0,b1⟩:=b;simp only [Lh,br,dz,Ob.row.injEq,Ob.mp.injEq,Ob.lp.injEq,Ob.box.injEq,fO,ig] at h;obtain ⟨h0,h1⟩:=h
 rw [gT.inj _ _ h0,h1]⟩
noncomputable def f493 (a0:Int) (a1:List Int) (iV:List AV):Option (Bool×(List AV)):=dec Lh (Rn 2000000 [(.pv (.int .i64 a0)),(.pv (.eH 1 (List.map (bX .i64) a1))),(.row 10000)] [(10000,(.lp iV))])
theorem e492 (a1:FSt) (iV:List AV) {r:(Unit×(List AV))}
 (h:(
 check (0≤((length a1.az:Int):Int)∧((length a1.az:Int):Int)≤(length a1.az:Int)∧1 *toNat (length a1.az:Int)≤281474976710656∧((length a1.az:Int):Int)≤9223372036854775807) (
 check (0≤(0:Int)∧toNat 0<length (replicate (toNat (length a1.az:Int)) false)) (
 gj (replicate (toNat (length a1.az:Int)) false) (toNat 0) fun aK=>
 Fx a1 0 ((replicate (toNat (length a1.az:Int)) false).set (toNat 0) true) [0] ([([]:List Int)]:List (List Int)) iV)):Option (Unit×(List AV)))=some r):
 f492 a1 iV=some r:=
 qt (E:=zC) h (
 gR (p:=0≤((length (List.map Node.enc a1.az):Int):Int)∧((length (List.map Node.enc a1.az):Int):Int)≤(length (List.map Node.enc a1.az):Int)∧1 *toNat (length (List.map Node.enc a1.az):Int)≤281474976710656∧((length (List.map Node.enc a1.az):Int):Int)≤9223372036854775807) (by simp only [aW];exact id) (
 gR (p:=0≤(0:Int)∧toNat 0<length (replicate (toNat (length (List.map Node.enc a1.az):Int)) (qO false))) (by simp only [aW,rz,kg];exact id) (
 Sh (enc:=qO) (L:=(replicate (toNat (length (List.map Node.enc a1.az):Int)) (qO false))) (by simp only [aW,rz,kg]) fun aK=>
 (show nP _ (qq P oz cq.Hq fk 82 4 [10000] [(0,(.cl 2000000 [.r 10000])),(1,(.pv (.ref (FSt.enc a1)))),(3,(.row 12)),(4,(.row 15)),(5,(.row 16)),(6,(.pv (.int .i64 0)))] [(12,(.row 4 1 ((replicate (toNat (length (List.map Node.enc a1.az):Int)) (qO false)).set (toNat 0) (qO true)))),(15,(.row 3 1 (List.map (bX .i64) [0]))),(16,(.row 60 1 (List.map (iB 1 (bX .i64)) [([]:List Int)]))),(10000,(.lp iV))]) ( Fx a1 0 ((replicate (toNat (length a1.az:Int)) false).set (toNat 0) true) [0] ([([]:List Int)]:List (List Int)) iV) from fun _ h=>by simpa only [aW,jB,jd,rz,kg] using lS _ _ _ h))))
 (by kernel_rfl) (fun h=>mP (C:=oz) rfl h)
theorem k492_4 (v1:FSt) (i6:Int) (sR:List Bool) (j0:List Int) (pV:List (List Int)) (me:List AV) {r:(Unit×(List AV))}
 (h:(
 bif (decide (i6<(length j0:Int))) then (
 check (0≤i6∧toNat i6<length j0) (
 gj j0 (toNat i6) fun aK=>
 check (0≤i6∧toNat i6<length pV) (
 gj pV (toNat i6) fun dP=>
 Pp (f493 aK dP me) fun er AN=>
 bif (!er) then (
 some ((),AN))
 else (
 check (0≤i6∧toNat i6<length j0) (
 gj j0 (toNat i6) fun p9=>
 bw v1.az p9 fun nM=>
 CG v1 i6 nM.cO (length nM.cO:Int) 0 sR j0 pV AN)))))
 else (
 some ((),me)):Option (Unit×(List AV)))=some r):
 Fx v1 i6 sR j0 pV me=some r:=
 qt (E:=zC) h (
 HU (c:=(decide (i6<(length (List.map (bX .i64) j0):Int)))) (by simp only [aW]) (
 gR (p:=0≤i6∧toNat i6<length (List.map (bX .i64) j0)) (by simp only [aW];exact id) (
 In (bX .i64) fun aK=>
 gR (p:=0≤i6∧toNat i6<length (List.map (iB 1 (bX .i64)) pV)) (by simp only [aW];exact id) (
 In (iB 1 (bX .i64)) fun dP=>
 Y0 (kk:=fun r206 l207=>oy 10000 l207 fun ol207_0 l207_0=>Zg ol207_0 fun AN=>Np l207_0<|s9 Q1 r206 fun er=>
 bif (!er) then (
 some ((.mu []),[(10000,(.lp AN))]))
 else (
 check (0≤i6∧toNat i6<length (List.map (bX .i64) j0)) (
 gj (List.map (bX .i64) j0) (toNat i6) fun c210=>s9 (bX .i64) c210 fun p9=>
 bw (List.map Node.enc v1.az) p9 fun c212=>s9 Node.enc c212 fun nM=>
 qq P oz cq.Hq fk 82 8 [10000] [(0,(.cl 2000000 [.r 10000])),(1,(.pv (.ref (FSt.enc v1)))),(3,(.row 12)),(4,(.row 15)),(5,(.row 16)),(6,(.pv (.int .i64 i6))),(42,(.pv (.eH 2 (List.map cF.enc nM.cO)))),(43,(.pv (.int .i64 (length (List.map cF.enc nM.cO):Int)))),(44,(.pv (.int .i64 0)))] [(12,(.row 4 1 (List.map qO sR))),(15,(.row 3 1 (List.map (bX .i64) j0))),(16,(.row 60 1 (List.map (iB 1 (bX .i64)) pV))),(10000,(.lp AN))]))) Iz fun er AN=>Y2 (I_asLp (xs:=AN) (I_nil (I_res (enc:=Q1) (y:=er) (
 Ic (
 Ma rfl) (
 gR (p:=0≤i6∧toNat i6<length (List.map (bX .i64) j0)) (by simp only [aW];exact id) (
 In (bX .i64) fun p9=>
 Ig Node.enc fun nM=>
 (show nP _ (qq P oz cq.Hq fk 82 8 [10000] [(0,(.cl 2000000 [.r 10000])),(1,(.pv (.ref (FSt.enc v1)))),(3,(.row 12)),(4,(.row 15)),(5,(.row 16)),(6,(.pv (.int .i64 i6))),(42,(.pv (.eH 2 (List.map cF.enc nM.cO)))),(43,(.pv (.int .i64 (length (List.map cF.enc nM.cO):Int)))),(44,(.pv (.int .i64 0)))] [(12,(.row 4 1 (List.map qO sR))),(15,(.row 3 1 (List.map (bX .i64) j0))),(16,(.row 60 1 (List.map (iB 1 (bX .i64)) pV))),(10000,(.lp AN))]) ( CG v1 i6 nM.cO (length nM.cO:Int) 0 sR j0 pV AN) from fun _ h=>by simpa only [aW] using lS _ _ _ h)))))))))) (
 Is))
 (by kernel_rfl) (fun h=>oH h)
theorem abK (v1:FSt) (i6:Int) (v42:List cF) (GD v44:Int) (sR:List Bool) (j0:List Int) (pV:List (List Int)) (me:List AV) {r:(Unit×(List AV))}
 (h:(
 bif (decide (v44<GD)) then (
 bw v42 v44 fun aK=>
 check (0≤aK.To∧toNat aK.To<length sR) (
 gj sR (toNat aK.To) fun dP=>
 bif (!dP) then (
 check (0≤aK.To∧toNat aK.To<length sR) (
 gj sR (toNat aK.To) fun gl=>
 check ((length j0+length [aK.To]) *8≤140737488355328∧length j0+length [aK.To]≤4611686018427387904) (
 check (0≤i6∧toNat i6<length pV) (
 gj pV (toNat i6) fun oN=>
 Option.bind (f460 oN) fun kV=>
 check ((length kV+length [aK.aY]) *8≤140737488355328∧length kV+length [aK.aY]≤4611686018427387904) (
 check ((length pV+length ([(kV++[aK.aY])]:List (List Int))) *24≤140737488355328∧length pV+length ([(kV++[aK.aY])]:List (List Int))≤4611686018427387904) (
 CG v1 i6 v42 GD (wrap .i64 (v44+1)) (sR.set (toNat aK.To) true) (j0++[aK.To]) (pV++([(kV++[aK.aY])]:List (List Int))) me))))))
 else (
 CG v1 i6 v42 GD (wrap .i64 (v44+1)) sR j0 pV me)))
 else (
 Fx v1 (wrap .i64 (i6+1)) sR j0 pV me):Option (Unit×(List AV)))=some r):
 CG v1 i6 v42 GD v44 sR j0 pV me=some r:=
 qt (E:=zC) h (
 Ic (
 Ig cF.enc fun aK=>
 gR (p:=0≤aK.To∧toNat aK.To<length (List.map qO sR)) (by simp only [aW];exact id) (
 In qO fun dP=>
 Ic (
 gR (p:=0≤aK.To∧toNat aK.To<length (List.map qO sR)) (by simp only [aW];exact id) (
 In qO fun gl=>
 gR (p:=(length (List.map (bX .i64) j0)+length (List.map (bX .i64) [aK.To])) *8≤140737488355328∧length (List.map (bX .i64) j0)+length (List.map (bX .i64) [aK.To])≤4611686018427387904) (by simp only [aW];exact id) (
 gR (p:=0≤i6∧toNat i6<length (List.map (iB 1 (bX .i64)) pV)) (by simp only [aW];exact id) (
 In (iB 1 (bX .i64)) fun oN=>
 Ik fun kV=>
 gR (p:=(length (List.map (bX .i64) kV)+length (List.map (bX .i64) [aK.aY])) *8≤140737488355328∧length (List.map (bX .i64) kV)+length (List.map (bX .i64) [aK.aY])≤4611686018427387904) (by simp only [aW];exact id) (
 gR (p:=(length (List.map (iB 1 (bX .i64)) pV)+length ([[(.eH 1 ((List.map (bX .i64) kV)++(List.map (bX .i64) [aK.aY])))]]:List (List AV))) *24≤140737488355328∧length (List.map (iB 1 (bX .i64)) pV)+length ([[(.eH 1 ((List.map (bX .i64) kV)++(List.map (bX .i64) [aK.aY])))]]:List (List AV))≤4611686018427387904) (by simp only [aW,bT,cQ,aP,dV,bg,eE,iB];exact id) (
 (show nP _ (qq P oz cq.Hq fk 82 8 [10000] [(0,(.cl 2000000 [.r 10000])),(1,(.pv (.ref (FSt.enc v1)))),(3,(.row 12)),(4,(.row 15)),(5,(.row 16)),(6,(.pv (.int .i64 i6))),(42,(.pv (.eH 2 (List.map cF.enc v42)))),(43,(.pv (.int .i64 GD))),(44,(.pv (.int .i64 (wrap .i64 (v44+1)))))] [(12,(.row 4 1 ((List.map qO sR).set (toNat aK.To) (qO true)))),(15,(.row 3 1 ((List.map (bX .i64) j0)++(List.map (bX .i64) [aK.To])))),(16,(.row 60 1 ((List.map (iB 1 (bX .i64)) pV)++([[(.eH 1 ((List.map (bX .i64) kV)++(List.map (bX .i64) [aK.aY])))]]:List (List AV))))),(10000,(.lp me))]) ( CG v1 i6 v42 GD (wrap .i64 (v44+1)) (sR.set (toNat aK.To) true) (j0++[aK.To]) (pV++([(kV++[aK.aY])]:List (List Int))) me) from fun _ h=>by simpa only [bT,jB,aP,dV,bg,eE,iB] using lS _ _ _ h))))))) (
 Iz))) (
 Iz))
 (by kernel_rfl) (fun h=>oH h)
end Go.Proofs.YthppjmoncapdfaaGreatDoor.cl.cy
namespace Go.Proofs.YthppjmoncapdfaaGreatDoor.cl.cy
open Go Go.AM
def eP (p:List Int):AV:= .eH 1 (p.map (bX .i64))
def GH (l:List (Int×Int)):List cF:=l.map fun a=>⟨a.1,a.2⟩
def nodes (g:List zF):List Node:=g.map fun x=>⟨x.1,GH x.2⟩
theorem y_at {n:Nat} {p:List Int} {out:List AV} (h:n<out.length):f493 (n:Int) p out=some (true,out.set n (eP p)):=by
 refine jM (E:=Lh) ?_;refine qU ?_;show (bif Nat.blt n out.length then _ else _)=_;rw [show Nat.blt n out.length=true from jA h];rfl
theorem c_at {l:List Int} (hl:l.length≤1073741824):f460 l=some l:=by
 refine jM (E:=EN Q2) ?_;refine qU ?_;have hb:Nat.ble ((List.map (bX .i64) l).length *8) 140737488355328=true:=jA (by rw [aW];omega);show (bif Nat.ble ((List.map (bX .i64) l).length *8) 140737488355328 then _ else _)=_;rw [hb];rfl
theorem wY:∀(ns:List Int) (ps out:List (List Int)) (t:Int) (p:List Int),ns.length=ps.length→DU out (ns++[t]) (ps++[p])=(DU out ns ps).set t.toNat p
 |[],[],_,_,_,_=>rfl
 |n::ns,q::ps,out,t,p,h=>wY ns ps (out.set n.toNat q) t p (by simpa using h)
theorem F8:∀(ns:List Int) (ps out:List (List Int)),(DU out ns ps).length=out.length
 |[],ps,_=>by cases ps<;>rfl
 |n::ns,[],_=>rfl
 |n::ns,q::ps,out=>by rw [DU,F8 ns ps];simp
theorem DJ:∀{l:List Bool} {m:Nat},l[m]? =some false→((l.set m true).filter id).length=(l.filter id).length+1
 |b::l,0,h=>by simp at h;subst h;rfl
 |b::l,m+1,h=>by
  have:=DJ (l:=l) (m:=m) (by simpa using h);cases b<;>simp [this]
structure Inv (N:Nat) (seen:List Bool) (ns:List Int) (ps:List (List Int)):Prop where
 sl:seen.length=N
 le:ns.length=ps.length
 ct:ns.length≤(seen.filter id).length
 pl:∀(k:Nat) (p:List Int),ps[k]? =some p→p.length≤k
 nb:∀n∈ns,0≤n∧n.toNat<N
theorem Inv.bd {N:Nat} {seen:List Bool} {ns:List Int} {ps:List (List Int)} (h:Inv N seen ns ps):ns.length≤N:=
 dB h.ct (by rw [←h.sl];exact kn _ _)
theorem wrapJ {j:Nat} (h:j<9223372036854775807):wrap .i64 ((j:Int)+1)=((j+1:Nat):Int):=by
 rw [kJ (by omega) (by omega)];omega
theorem inner {N:Nat} (hN:N≤1073741824) {v:FSt} {i:Nat} {log:List AV} {r:Unit×List AV} {p:List Int} {V:List cF} (hV:V.length≤9223372036854775807):∀(l:List (Int×Int)) (j:Nat) (seen:List Bool) (ns:List Int) (ps:List (List Int)) (seen':List Bool) (ns':List Int) (ps':List (List Int)),V.drop j=GH l→GI p l seen ns ps=some (seen',ns',ps')→Inv N seen ns ps→ps[i]? =some p→
  (Inv N seen' ns' ps'→ns<+:ns'→ps<+:ps'→Fx v ((i+1:Nat):Int) seen' ns' ps' log=some r)→CG v (i:Int) V (V.length:Int) (j:Int) seen ns ps log=some r:=by
 intro l
 induction l with
 |nil=>
  intro j seen ns ps seen' ns' ps' hd hb I hp K;simp only [GI,aG,br] at hb;obtain ⟨rfl,rfl,rfl⟩:=hb;have hj:V.length≤j:=by
   have:=aI length hd;simp [GH] at this;omega
  have hil:=(bD.1 hp).1;have:=I.bd;have:=I.le;refine abK _ _ _ _ _ _ _ _ _ ?_;rw [cond_neg (by simp;omega),bG (by omega)];exact K I (nw _) (nw _)
 |cons a l ih=>
  obtain ⟨f,t⟩:=a;intro j seen ns ps seen' ns' ps' hd hb I hp K;have hj:V[j]? =some ⟨f,t⟩:=by
   have:=aI (fun z=>z[0]?) hd;simpa [GH] using this
  have hd':V.drop (j+1)=GH l:=by
   have:=aI List.tail hd;simpa [GH] using this
  have hjl:=(bD.1 hj).1;have hil:=(bD.1 hp).1;have hbd:=I.bd;have hle:=I.le;refine abK _ _ _ _ _ _ _ _ _ ?_;rw [cond_pos (by simp;omega),gW hj];unfold GI at hb;cases hs:seen[t.toNat]? with
  |none=>rw [hs] at hb;cases hb
  |some b=>
   rw [hs] at hb;dsimp only at hb;split at hb
   ·cases hb
   ·rename_i ht
    have DR:=(bD.1 hs).1;rw [bp ⟨by show (0:Int)≤t;omega,DR⟩,iD hs];cases b with
    |true=>
     simp only [ai] at hb;simp only [ic,aj];rw [wrapJ (by omega)];exact ih _ _ _ _ _ _ _ hd' hb I hp K
    |false=>
     simp only [aj] at hb;simp only [pg,ai];have hpp:=I.pl _ _ hp;have hsz:=I.sl;have hct:ns.length+1≤N:=by
      have h1:=DJ hs;have h2:=kn id (seen.set t.toNat true);have h3:=I.ct;simp only [jd] at h2;omega
     rw [bp ⟨by show (0:Int)≤t;omega,DR⟩,iD hs,bp (by simp;omega),bp ⟨by omega,by rw [aR];exact hil⟩,iD (x:=p) (by rw [aR];exact hp),c_at (by omega),aA,bp (by simp;omega),bp (by simp;omega),wrapJ (by omega)];have I':Inv N (seen.set t.toNat true) (ns++[t]) (ps++[p++[f]]):=by
      refine ⟨by simpa using hsz,by simp [hle],?_,fun k q hq=> ?_,fun n hn=> ?_⟩
      ·rw [DJ hs];have:=I.ct;simp;omega
      ·by_cases hk:k<ps.length
       ·rw [di hk] at hq;exact I.pl _ _ hq
       ·have hkl:=(bD.1 hq).1
        have:k=ps.length:=by simp at hkl;omega
        subst this;simp at hq;subst hq;simp;omega
      ·rcases bC.1 hn with h|h
       ·exact I.nb n h
       ·simp only [bP] at h;subst h
        exact ⟨by omega,by omega⟩
     exact ih _ _ _ _ _ _ _ hd' hb I' (by rw [di hil];exact hp) fun I2 h1 h2=>K I2 ((xP _ _).trans h1) ((xP _ _).trans h2)
theorem L4 {α:Type} {l l':List α} {i:Nat} {x:α} (h:l[i]? =some x) (hp:l<+:l'):l'.take (i+1)=l'.take i++[x]∧l'.take i=l.take i:=by
 obtain ⟨e,rfl⟩:=hp;have hi:=(bD.1 h).1;refine ⟨?_,by rw [uu (by omega)]⟩;rw [c8,di hi,h];rfl
theorem outer {g:List zF} (hN:g.length≤1073741824) (hV:∀x∈g,x.2.length≤9223372036854775807):∀(k i:Nat) (seen:List Bool) (ns:List Int) (ps:List (List Int)) (ns':List Int) (ps':List (List Int)),bfs g k i seen ns ps=some (ns',ps')→Inv g.length seen ns ps→i≤ns.length→
  Fx ⟨nodes g⟩ (i:Int) seen ns ps ((DU (replicate g.length []) (ns.take i) (ps.take i)).map eP)=some ((),(DU (replicate g.length []) ns' ps').map eP):=by
 intro k
 induction k with
 |zero=>intro i seen ns ps ns' ps' hb;cases hb
 |succ k ih=>
  intro i seen ns ps ns' ps' hb I hi;have hle:=I.le;have hbd:=I.bd;refine k492_4 _ _ _ _ _ _ ?_;unfold bfs at hb;by_cases hlt:i<ns.length
  ·obtain ⟨n,hn⟩:∃n,ns[i]? =some n:=⟨_,aH hlt⟩
   obtain ⟨p,hp⟩:∃p,ps[i]? =some p:=⟨_,aH (by omega)⟩
   rw [hn,hp] at hb;dsimp only at hb;obtain ⟨h0,hnl⟩:=I.nb n (aT hn);obtain ⟨m,rfl⟩:∃m:Nat,n=m:=⟨n.toNat,by omega⟩
   rw [aR] at hnl hb;obtain ⟨x,hx⟩:∃x,g[m]? =some x:=⟨_,aH hnl⟩
   rw [hx] at hb;dsimp only at hb;have hx':(nodes g)[m]? =some ⟨x.1,GH x.2⟩:=by simp [nodes,hx]
   rw [cond_pos (by simp;omega),bp ⟨by omega,by rw [aR];exact hlt⟩,iD (x:=(m:Int)) (by rw [aR];exact hn),bp ⟨by omega,by rw [aR];omega⟩,iD (x:=p) (by rw [aR];exact hp),y_at (by simp [F8,hnl]),Ij];simp only [ic,aj];rw [bp ⟨by omega,by rw [aR];exact hlt⟩,iD (x:=(m:Int)) (by rw [aR];exact hn),gW hx'];cases hA:GI p x.2 seen ns ps with
   |none=>rw [hA] at hb;cases hb
   |some q=>
    obtain ⟨seen2,ns2,ps2⟩:=q;rw [hA] at hb;dsimp only at hb;refine inner hN (by simpa [GH] using hV x (aT hx)) x.2 0 seen ns ps seen2 ns2 ps2 rfl hA I hp fun I2 h1 h2=> ?_
    have:=ih (i+1) seen2 ns2 ps2 ns' ps' hb I2 (by have:=h1.length_le;omega);obtain ⟨a1,a2⟩:=L4 hn h1;obtain ⟨b1,b2⟩:=L4 hp h2;rw [a1,b1,a2,b2,wY _ _ _ _ _ (by simp [hle]),aR,jB] at this;exact this
  ·have e1:ns[i]? =none:=fc (by omega)
   have:ns.take i=ns:=jm (by omega);have h2:ps.take i=ps:=jm (by omega);rw [e1] at hb;simp only [aG,br] at hb;obtain ⟨rfl,rfl⟩:=hb;rw [cond_neg (by simp;omega),this,h2]
theorem XB {g:List zF} {ps:List (List Int)} (h0:0<g.length) (hN:g.length≤1073741824) (hV:∀x∈g,x.2.length≤9223372036854775807) (h:yF g=some ps):
  f492 ⟨nodes g⟩ (replicate g.length (.eH 1 []))=some ((),ps.map eP):=by
 unfold yF at h;obtain ⟨⟨ns',ps'⟩,hb,rfl⟩:=bS.1 h;refine e492 _ _ ?_;have hl:(nodes g).length=g.length:=by simp [nodes]
 have hs0:(replicate g.length false)[0]? =some false:=by simp [h0]
 have I:Inv g.length ((replicate g.length false).set 0 true) [0] [[]]:=by
  refine ⟨by simp,rfl,?_,fun k p hp=> ?_,fun n hn=> ?_⟩
  ·rw [DJ hs0];simp
  ·cases k with
   |zero=>simp at hp;subst hp;exact aS _
   |succ k=>simp at hp
  ·simp only [bP] at hn;subst hn
   exact ⟨by omega,by simpa using h0⟩
 have:=outer hN hV (g.length+1) 0 _ _ _ ns' ps' hb I (dh _);show check _ _=_;rw [bp ⟨by omega,by omega,by show 1 *toNat ((nodes g).length:Int)≤_;omega,by show (((nodes g).length:Int))≤_;omega⟩,bp ⟨by omega,by show _<(replicate (toNat ((nodes g).length:Int)) false).length;simp;omega⟩];simp only [hl,aR,Int.toNat_zero];rw [iD hs0];simpa [DU,eP] using this
end Go.Proofs.YthppjmoncapdfaaGreatDoor.cl.cy
