/- slices.Clone, taken as a primitive, is sound. -/
import Derived.Test.YthppjmoncapdfaaGreatDoorClT
import Derived.Test.YthppjmoncapdfaaGreatDoorClQb
import Derived.WalkKit
import Derived.Lib.SliceRun
import Derived.Lib.Walk
import Derived.Shelf.RegionOpenPlain
import Derived.Deep.LoopGhost
import Derived.RangeFuncWrites
import Derived.RangeFuncLeaves
import Derived.RangeFuncBox
import Derived.RangeFuncNested
import Derived.OwnWalkIn
import Derived.TacticsInMore
import Derived.LoopNIn
import Derived.LoopIn
import Derived.Test.YthppjmoncapdfaaGreatDoorClQd
set_option linter.unusedVariables false
set_option linter.unusedSimpArgs false
set_option maxRecDepth 100000
set_option maxHeartbeats 2000000
namespace Go.Proofs.YthppjmoncapdfaaGreatDoor.cl
open Go Go.AM Go.RowKit
theorem yw {μ:Mu} {loc:Nat→Value} {w w':World} {e sz:Nat} {xs:List (List AV)} {v:Value} {vs:List Value} {q:Qp} (hq:q.p→False) (dQ:BU μ w) (hb:Below w.heap.size w w') (hown:w'.ownsRow w.heap.size e sz v xs.length vs) (hrc:bZ μ sz xs vs):
  dM q μ loc [] (.dI [.dI [.self e, .aW sz xs]]) [] w v μ loc w' where
 ext:=⟨Mu.le.refl _,fun _ _ _ h=> .inl h⟩
 oZ:=fun b j x hx=>by
  have h:=dQ b j x hx;rw [dK (hb.block b (gW h)) j];exact h
 res:= .inr (.inr ⟨e,sz,xs,vs,rfl,by
  refine ⟨hown.1,?_⟩;rcases hown.2 with h|⟨g,cap,cur,h1,_,h2⟩
  ·exact .inl h
  ·exact .inr ⟨g,cap,cur,h1,Nat.zero_le _,h2⟩,hrc,fun g hg=>by
  have hge:w.heap.size≤g:=by
   rcases hown.2 with ⟨h,_⟩|⟨g',cap,cur,h,h2,_⟩
   ·rw [h] at hg;cases hg
   ·rw [h] at hg;cases hg;exact h2
  refine ⟨hge,fun j=> ?_,fun id o h=>by cases h⟩;cases hm:μ g j with
  |none=>rfl
  |some x=>have:=gW (dQ _ _ _ hm);omega⟩)
 obs:=fun id o h=>by cases h
 apart:=fun i j oi oj h=>by cases h
 keep:=fun b hlt _=>hb.block b hlt
 fix:=fun id h=>by cases h
 os:=hb.os
 tape:=hb.tape
 output:=hb.output
 grown:=hb.size
 drawn:=fun h=>(hq h).elim
theorem Jg {μ:Mu} {w:World} {sz:Nat} {xs:List (List AV)} {a:Addr} (dQ:BU μ w) (hA:xs.length=0∨∃b off,some a=some ⟨b,off,none⟩∧fR μ sz b xs off):
  ∃us,bZ μ sz xs us∧(∀u∈us,u.oneCell'=true)∧∀j u,us[j]? =some u→w.cell? (a.add j)=some u:=by
 rcases hA with h0|⟨b,off,ea,hrow⟩
 ·have:xs=[]:=by simpa using h0
  subst this;exact ⟨[],rfl,by simp,by simp⟩
 ·cases ea
  obtain ⟨us,k1,k2⟩:=oq hrow;have h1:=gO k1
  exact ⟨us,k1,h1,fun j u hj=>by
   rw [Addr.add_lit]
   exact nZ (dQ _ _ _ (k2 j u hj)) (h1 u (List.mem_of_getElem? hj))⟩
theorem NT {μ:Mu} {loc:Nat→Value} {w:World} {xs:List (List AV)} {u:Value} {q:Qp} (hq:q.p→False) (dQ:BU μ w) (hu:rep μ (.aW 1 xs) u) (hbig:xs.length *8≤140737488355328):
  Calls P 57 #[u] w fun e w'=>∃v μ' loc',e= .returned v∧dM q μ loc [] (.dI [.dI [.self 3, .aW 1 xs]]) [] w v μ' loc' w':=by
 rw [rep.eq_def] at hu;dsimp only at hu;obtain ⟨A,c,rfl,hc1,CD,hA⟩:=hu;have qn:∀(w:World) (a:Option Addr) (n c n' c':Nat),(binOp .eql 60 (.slice a n c) (.slice none n' c')).run P w= .ok (.bool a.isNone) w:=fun w a n c n' c'=>Lib.run_eql_slice_nil w _ _ a n c n' c' Tryz.underlying60
 cases A with
 |none=>
  have h0:xs=[]:=by
   rcases hA with h|⟨b,off,e,_⟩
   ·simpa using h
   ·cases e
  subst h0
  go_enter Tryz.func57,Tryz.ntmps57
  go_wp2
  go_ret
  exact ⟨_,μ,loc,rfl,yw hq dQ (Below.refl _ _) (vs:=[]) ⟨rfl, .inl ⟨rfl,rfl⟩⟩ rfl⟩
 |some a=>
  obtain ⟨us,lI,h1,hcell⟩:=Jg dQ hA;have uw:=cg lI;obtain ⟨i0,hi,PL,Yx,Yy⟩:=info_parts (show (P.info? 3).map (fun i=>(i.zero,i.size,i.bytes))=some (some (.int .i64 0),1,8) by kernel_rfl);have u60:∀w,Sem.run P (underlying 60) w= .ok (TypeDesc.slice 3) w:=run_underlying Tryz.underlying60
  go_enter Tryz.func57,Tryz.ntmps57
  go_wp2_with (at_builtin;refine wpList_append_own _ rfl _ _ 60 rfl w.heap.size 3 i0 (.int .i64 0) 1 8 Tryz.underlying60 hi PL Yx Yy rfl (by decide) _ _ _ rfl (World.ownsRow_made w #[] 0 (Nat.le_refl _) (Nat.zero_le _) rfl) a xs.length c us rfl ?qc1 ?qc2 h1 ?qc4 ?qc5 ?qc6 ?_)
  case qc1=>exact uw
  case qc2=>exact fun j u hj=>Lib.cell?_alloc_some _ (hcell j u hj)
  case qc4=>omega
  case qc5=>omega
  case qc6=>simp
  intro v' w1 hown hgrow CG
  go_wp2
  go_ret
  exact ⟨_,μ,loc,rfl,yw hq dQ (((Below.refl _ w).alloc (Nat.le_refl _) _).grown hgrow (by simp) (by intro k hk;simp [Value.ownBlock] at hk;omega)) (by simpa using hown) lI⟩
theorem Vb {μ:Mu} {loc:Nat→Value} {w:World} {xs:List (List AV)} {u:Value} {q:Qp} (hq:q.p→False) (dQ:BU μ w) (hu:rep μ (.aW 2 xs) u) (hbig:xs.length *32≤140737488355328):
  Calls P 74 #[u] w fun e w'=>∃v μ' loc',e= .returned v∧dM q μ loc [] (.dI [.dI [.self 52, .aW 2 xs]]) [] w v μ' loc' w':=by
 rw [rep.eq_def] at hu;dsimp only at hu;obtain ⟨A,c,rfl,hc1,CD,hA⟩:=hu;have qn:∀(w:World) (a:Option Addr) (n c n' c':Nat),(binOp .eql 22 (.slice a n c) (.slice none n' c')).run P w= .ok (.bool a.isNone) w:=fun w a n c n' c'=>Lib.run_eql_slice_nil w _ _ a n c n' c' Tryz.underlying22
 cases A with
 |none=>
  have h0:xs=[]:=by
   rcases hA with h|⟨b,off,e,_⟩
   ·simpa using h
   ·cases e
  subst h0
  go_enter Tryz.func74,Tryz.ntmps74
  go_wp2
  go_ret
  exact ⟨_,μ,loc,rfl,yw hq dQ (Below.refl _ _) (vs:=[]) ⟨rfl, .inl ⟨rfl,rfl⟩⟩ rfl⟩
 |some a=>
  obtain ⟨us,lI,h1,hcell⟩:=Jg dQ hA;have uw:=cg lI;obtain ⟨i0,hi,PL,Yx,Yy⟩:=info_parts (show (P.info? 52).map (fun i=>(i.zero,i.size,i.bytes))=some (some (.agg #[.int .i64 0, .slice none 0 0]),2,32) by kernel_rfl);have u22:∀w,Sem.run P (underlying 22) w= .ok (TypeDesc.slice 52) w:=run_underlying Tryz.underlying22
  go_enter Tryz.func74,Tryz.ntmps74
  go_wp2_with (at_builtin;refine wpList_append_own _ rfl _ _ 22 rfl w.heap.size 52 i0 (.agg #[.int .i64 0, .slice none 0 0]) 2 32 Tryz.underlying22 hi PL Yx Yy rfl (by decide) _ _ _ rfl (World.ownsRow_made w #[] 0 (Nat.le_refl _) (Nat.zero_le _) rfl) a xs.length c us rfl ?qc1 ?qc2 h1 ?qc4 ?qc5 ?qc6 ?_)
  case qc1=>exact uw
  case qc2=>exact fun j u hj=>Lib.cell?_alloc_some _ (hcell j u hj)
  case qc4=>omega
  case qc5=>omega
  case qc6=>simp
  intro v' w1 hown hgrow CG
  go_wp2
  go_ret
  exact ⟨_,μ,loc,rfl,yw hq dQ (((Below.refl _ w).alloc (Nat.le_refl _) _).grown hgrow (by simp) (by intro k hk;simp [Value.ownBlock] at hk;omega)) (by simpa using hown) lI⟩
end Go.Proofs.YthppjmoncapdfaaGreatDoor.cl
set_option linter.unusedVariables false
set_option linter.unusedSimpArgs false
set_option maxRecDepth 100000
set_option maxHeartbeats 2000000
namespace Go.Proofs.YthppjmoncapdfaaGreatDoor.cl
open Go Go.AM Go.RowKit
attribute [local go_sem] Oper.semAt_some
abbrev C2:Type:={ us:List Value // us.length=2∧∀u∈us,u.oneCell'=true }
def flat (l:List C2):List Value:=(l.map (·.1)).flatten
theorem RE:∀{l:List C2} {k:Nat} {x:C2} {j:Nat} {u:Value},l[k]? =some x→x.1[j]? =some u→(flat l)[k *2+j]? =some u:=by
 intro l
 induction l with
 |nil=>intro k x j u h;simp at h
 |cons y l ih=>
  intro k x j u h hj;have hy:=y.2.1;simp only [flat,List.map_cons,List.flatten_cons];cases k with
  |zero=>
   simp only [List.getElem?_cons_zero,Option.some.injEq] at h;subst h;have:=(List.getElem?_eq_some_iff.1 hj).1;rw [List.getElem?_append_left (by omega)];simpa using hj
  |succ k=>
   rw [List.getElem?_append_right (by omega),hy,show (k+1) *2+j-2=k *2+j by omega];exact ih (by simpa using h) hj
theorem Nt (x:C2):∃a b,x.1=[a,b]∧a.oneCell'=true∧b.oneCell'=true:=by
 obtain ⟨us,h,h1⟩:=x
 match us,h with
 |[a,b],_=>exact ⟨a,b,rfl,h1 a (by simp),h1 b (by simp)⟩
theorem vn {w:World} {c:Array Value} {t i:Nat} {v:Value} (hi:i<c.size) (ov:v.oneCell'=true):
  Sem.run P (store ⟨w.heap.size,i,none⟩ v) (w.alloc (.cells c t))= .ok () (w.alloc (.cells (c.setIfInBounds i v) t)):=by
 have hn:=World.alloc_heap_new w (.cells c t);have hc:(w.alloc (.cells c t)).cell? ⟨w.heap.size,i,none⟩=some c[i]:=by simp only [World.cell?,hn];simp [hi]
 have hf:(w.alloc (.cells c t)).frozen? ⟨w.heap.size,i,none⟩=false:=by simp only [World.frozen?,hn];simp
 rw [run_store _ _ _ _ _ ov,hc];simp [hf,World.setCell_alloc_new]
theorem Wi {w:World} {u0 u1:Value} {t:TypeId}:∀(j:Nat) (u:Value),[u0,u1][j]? =some u→(w.alloc (.cells #[u0,u1] t)).cell? ((⟨w.heap.size,0,none⟩:Addr).add j)=some u:=by
 intro j u hj;rw [Addr.add_lit];have:=World.alloc_heap_new w (.cells #[u0,u1] t);simp only [World.cell?,this];simpa using hj
theorem Qo {n:Nat} (hn:1≤n) {Bs os n₀:Nat} {a:Option Addr} {cap:Nat} {xs:List C2} {w:World} (hcap:xs.length<4611686018427387904) (hB:Bs<n₀) (hn₀:n₀≤w.heap.size)
  (Zk:w.cell? ⟨Bs,os,none⟩=some (.slice a xs.length cap)) (hc:xs=[]∨∃b off,a=some ⟨b,off,none⟩∧b<n₀∧∀j u,(flat xs)[j]? =some u→w.cell? ⟨b,off+j,none⟩=some u):
  SeqStopsK Fence.wide n P 214 #[.pointer (some ⟨Bs,os,none⟩)] (fun x:C2=> #[.agg x.1.toArray]) (Below n₀) (fun ys=>ys=xs) (fun _=>True) xs.length w:=fun l J Jx W hW hJ _ hY h0=>by
 have hw:Below n₀ w W:=hW.mono hn₀
 replace Zk:=(hw.cell (p:=⟨Bs,os,none⟩) hB).trans Zk
 replace hc:xs=[]∨∃b off,a=some ⟨b,off,none⟩∧b<n₀∧∀j u,(flat xs)[j]? =some u→W.cell? ⟨b,off+j,none⟩=some u:=hc.imp id fun ⟨b,off,e,hb,h⟩=>⟨b,off,e,hb,fun j u hj=>(hw.cell (p:=⟨b,off+j,none⟩) hb).trans (h j u hj)⟩
 replace hn₀:=Nat.le_trans hn₀ hW.size
 refine callsIn_of_wp Tryz.func214 rfl trivial ?_ rfl;simp only [Tryz.ntmps214,List.size_toArray,List.length_cons,List.length_nil,Nat.reduceAdd,Nat.reduceSub,Array.replicate_succ,Array.replicate_zero,List.push_toArray,List.append_toArray,List.nil_append,List.cons_append]
 gi_wp2
 gi_loopw [7] (fun i wr=>∃k:Nat,k≤xs.length∧i= .int .i64 k∧J (xs.take k) wr∧Below n₀ W wr)
  (fun i _=>xs.length-(intOf i).toNat)
 case atStart=>exact ⟨0,Nat.zero_le _,rfl,by simpa using h0,Below.refl _ _⟩
 case round=>
  obtain ⟨k,hk,rfl,hJs,hnx⟩:=hrel;by_cases hlt:k<xs.length
  ·obtain ⟨u0,u1,hx,o0,o1⟩:=Nt xs[k]
   obtain ⟨b,off,rfl,hb,hcc⟩:∃b off,a=some ⟨b,off,none⟩∧b<n₀∧∀j u,(flat xs)[j]? =some u→W.cell? ⟨b,off+j,none⟩=some u:=by
    rcases hc with h|h
    ·subst h;simp at hlt
    ·exact h
   have hg:=List.getElem?_eq_getElem hlt;have hc0:wr.cell? ⟨b,off+k *2,none⟩=some u0:=(hnx.cell (p:=⟨b,off+k *2,none⟩) hb).trans (hcc _ _ (RE (j:=0) hg (by rw [hx];rfl)));have hc1:wr.cell? ⟨b,off+k *2+1,none⟩=some u1:=(hnx.cell (p:=⟨b,off+k *2+1,none⟩) hb).trans (hcc _ _ (RE (j:=1) hg (by rw [hx];rfl)));have hs0:=vn (w:=wr) (c:= #[.int .i64 0, .int .i64 0]) (t:=54) (i:=0) (by decide) o0;have hs1:=vn (w:=wr) (c:= #[u0, .int .i64 0]) (t:=54) (i:=1) (by simp) o1;have hs0':Sem.run P (store ⟨wr.heap.size,0,none⟩ u0) (wr.alloc (.cells #[.int .i64 0, .int .i64 0] 54))= .ok () (wr.alloc (.cells #[u0, .int .i64 0] 54)):=hs0;have hs1':Sem.run P (store ⟨wr.heap.size,1,none⟩ u1) (wr.alloc (.cells #[u0, .int .i64 0] 54))= .ok () (wr.alloc (.cells #[u0,u1] 54)):=hs1;have hJ2:J (xs.take k) (wr.alloc (.cells #[u0,u1] 54)):=hJ _ wr _ none hJs (World.grownBy_alloc _ _ _) (fun r e=>by cases e);obtain ⟨fn,tmps,assign,body,hy,hR⟩:=hY _ xs[k] _ hJ2 (by simp;omega);rw [hx] at hy
   gi_wp2
   refine hR.mono ?_
   rintro e W3 (⟨rfl,hJ3,hk3⟩|⟨rfl,hJ3⟩)
   ·gi_wp2
    go_roundw
    case rel=>exact ⟨k+1,by omega,by simp,by rw [List.take_add_one,hg];exact hJ3,(hnx.alloc (Nat.le_trans hn₀ hnx.size) _).trans hk3⟩
    case measure=>simp [intOf];omega
   ·gi_wp2
    refine bodyPost_ret (results_none rfl _ _ _) rfl ?_;exact ⟨⟨_,rfl⟩, .inr ⟨_,trivial,hJ3⟩⟩
  ·obtain rfl:k=xs.length:=by omega
   gi_wp2
   go_end0
   exact ⟨⟨_,rfl⟩, .inl ⟨_,rfl,by simpa using hJs⟩⟩
def Coll (w0:World) (Bs:Nat) (pre:List C2) (W:World):Prop:=
 (∃v,Boxed W Bs 50 v∧W.ownsRow w0.heap.size 54 2 v pre.length (flat pre)∧True)∧Below w0.heap.size w0 W
theorem Jl (w0:World) (Bs B:Nat) (hB:w0.heap.size≤B):OwnFrom B (Coll w0 Bs):=
 OwnFrom.and (Own.from (holdsRow_own w0.heap.size Bs 50 54 2 (fun s:List C2=>s.length) flat (fun _ _=>True)) _) (ownFrom_below (Nat.le_refl _) hB)
def Elt (fv b:Value) (x:C2) (a':Act) (W:World):Prop:=
 ∃q,W.heap[q]? =some (.cells x.1.toArray 54 (0,0))∧a'={ tmps:= #[.slice none 0 0,fv,b,undef, .slice none 0 0, .pointer (some ⟨q,0,none⟩),fv, .agg x.1.toArray,undef,undef,undef,undef,undef],defers:=[] }
theorem Vf (fv b:Value) (B:Nat) (x:C2) (a':Act):OwnFrom B (fun (_:Unit) W=>Elt fv b x a' W):=fun s A C row hs hg hr=>by
 obtain ⟨q,h,e⟩:=hs;refine ⟨q,(hg.block q (Array.getElem?_eq_some_iff.1 h).1 fun e=> ?_).trans h,e⟩;obtain ⟨_,o,ho,hc⟩:=hr q e.symm;rw [h] at ho;cases ho;cases hc
theorem O7 {n:Nat} (hn:3≤n) {Bs os:Nat} {a:Option Addr} {cap:Nat} {xs:List C2} {w:World} (hlen:xs.length *16≤140737488355328) (hB:Bs<w.heap.size)
  (Zk:w.cell? ⟨Bs,os,none⟩=some (.slice a xs.length cap)) (hc:xs=[]∨∃b off,a=some ⟨b,off,none⟩∧b<w.heap.size∧∀j u,(flat xs)[j]? =some u→w.cell? ⟨b,off+j,none⟩=some u):
  CallsIn Fence.wide n P 254 #[.slice none 0 0, .func (.func 214) #[] #[.pointer (some ⟨Bs,os,none⟩)]] w fun e w'=>∃v,e= .returned v∧w'.ownsRow w.heap.size 54 2 v xs.length (flat xs)∧Below w.heap.size w w':=by
 have h1:1≤n:=by omega
 refine callsIn_of_wp_marks Tryz.func254 rfl trivial ?_ rfl;simp only [Tryz.ntmps254,List.size_toArray,List.length_cons,List.length_nil,Nat.reduceAdd,Nat.reduceSub,Array.replicate_succ,Array.replicate_zero,List.push_toArray,List.append_toArray,List.nil_append,List.cons_append]
 gi_wp2
 have Ep:Below w.heap.size w (w.alloc (.cells #[.slice none 0 0] 50)):=(Below.refl _ w).alloc (Nat.le_refl _) _;obtain ⟨i0,hi,PL,Yx,Yy⟩:=info_parts (show (P.info? 54).map (fun i=>(i.zero,i.size,i.bytes))=some (some (.agg #[.int .i64 0, .int .i64 0]),2,16) by kernel_rfl);refine wpIn_rangeFunc_ownH rfl h1 (gf:=214) (lb:= #[.pointer (some ⟨Bs,os,none⟩)]) rfl trivial (enters_of Tryz.func214 (by kernel_rfl) rfl)
  (Qo (n:=n-1) (by omega) (w:=w.alloc (.cells #[.slice none 0 0] 50)) (a:=a) (cap:=cap) (xs:=xs) (n₀:=w.heap.size) (by omega) hB (by simp) ((Ep.cell (p:=⟨Bs,os,none⟩) hB).trans Zk) (hc.imp id fun ⟨b,off,e,hb,h⟩=>⟨b,off,e,hb,fun j u hj=>(Ep.cell (p:=⟨b,off+j,none⟩) hb).trans (h j u hj)⟩))
  belowK_t (belowK_b (by simp)) (Below.refl _ _) (fun _=>rfl)
  (Coll w w.heap.size) (fun _ _ _=>False) (Jl _ _ _ (by simp)) (fun _ _ _ _ _ hs _ _=>hs)
  ⟨⟨_,Boxed.new _ _ _,⟨rfl, .inl ⟨rfl,rfl⟩⟩,trivial⟩,Ep⟩
  (Elt (.func (.func 214) #[] #[.pointer (some ⟨Bs,os,none⟩)]) (.pointer (some ⟨w.heap.size,0,none⟩))) (Vf _ _ _) ?assign ?body ?done ?stop
 case assign=>
  intro l pre x W K hI hK;obtain ⟨u0,u1,hx,o0,o1⟩:=Nt x;have hs0:=vn (w:=W) (c:= #[.int .i64 0, .int .i64 0]) (t:=54) (i:=0) (by decide) o0;have hs1:=vn (w:=W) (c:= #[u0, .int .i64 0]) (t:=54) (i:=1) (by simp) o1;have hs0':Sem.run P (store ⟨W.heap.size,0,none⟩ u0) (W.alloc (.cells #[.int .i64 0, .int .i64 0] 54))= .ok () (W.alloc (.cells #[u0, .int .i64 0] 54)):=hs0;have hs1':Sem.run P (store ⟨W.heap.size,1,none⟩ u1) (W.alloc (.cells #[u0, .int .i64 0] 54))= .ok () (W.alloc (.cells #[u0,u1] 54)):=hs1;rw [hx]
  gi_wp2
  refine hK _ _ ((KeepsOthers.alloc _ _).from _) ((Below.refl _ _).alloc hI.2.size _) (Jl _ _ _ hI.2.size _ W _ none hI (World.grownBy_alloc _ _ _) (fun r e=>by cases e)) ⟨W.heap.size,by rw [hx];exact World.alloc_heap_new _ _,by rw [hx]⟩
 case body=>
  rintro l pre x a' W hl _ ⟨⟨v,hv,hrow,_⟩,hB⟩ ⟨q,hq,rfl⟩ hlen
  obtain ⟨u0,u1,hx,o0,o1⟩:=Nt x;rw [hx] at hq⊢;have c0:=hv.cell;have cq0:W.cell? ⟨q,0,none⟩=some u0:=by simp [World.cell?,hq]
  have cq1:W.cell? ⟨q,1,none⟩=some u1:=by simp [World.cell?,hq]
  have vh:pre.length+1≤xs.length:=hlen
  gi_wp2_with (first
   |(gi_at_builtin;refine wpListIn_append_own _ rfl _ _ 50 rfl w.heap.size 54 i0 (.agg #[.int .i64 0, .int .i64 0]) 2 16 Tryz.underlying50 hi PL Yx Yy rfl (by decide) _ _ _ rfl (hrow.alloc _) ⟨W.heap.size,0,none⟩ 1 1 [u0,u1] rfl rfl Wi (by simp [o0,o1]) (by unfold maxLen;omega) (by omega) (by have:=hB.size;simp;omega) ?_;intro v' w3 hown' hg3 hnil3
     obtain ⟨g,cap',rfl⟩:=ownsRow_succ hown';obtain ⟨b1,b2,b3,b4,b5⟩:=Boxed.appended hv (by decide) hrow hB.size (Nat.le_refl _) hown' hg3;have c3:=b1.cell
     have f3:=b1.frozen)
   |gi_in)
  exact ⟨b4.from _,b5,⟨_,b2,by simpa [flat,hx] using b3,trivial⟩,hB.trans b5⟩
 case done=>
  rintro D ys W hD rfl ⟨⟨v,h1,h2,_⟩,h3⟩ hK
  have c0:=h1.cell
  gi_wp2
  refine ⟨by simp, .inl ⟨_,_,rfl,run_takeDeferred hK,?_⟩⟩;exact ⟨_,results_tmp rfl _ _ _,_,rfl,ownsRow_putObj h2 _ hK rfl,h3.trans (belowK_b (w:=w) (Nat.le_refl _) W D _ _ (by simp at hD;omega) hK rfl rfl)⟩
 case stop=>
  rintro D c pre W _ _ h _
  exact h.elim
theorem LD {n:Nat} (hn:4≤n) {Bs os:Nat} {a:Option Addr} {cap:Nat} {xs:List C2} {w:World} (hlen:xs.length *16≤140737488355328) (hB:Bs<w.heap.size)
  (Zk:w.cell? ⟨Bs,os,none⟩=some (.slice a xs.length cap)) (hc:xs=[]∨∃b off,a=some ⟨b,off,none⟩∧b<w.heap.size∧∀j u,(flat xs)[j]? =some u→w.cell? ⟨b,off+j,none⟩=some u):
  CallsIn Fence.wide n P 212 #[.func (.func 214) #[] #[.pointer (some ⟨Bs,os,none⟩)]] w fun e w'=>∃v,e= .returned v∧w'.ownsRow w.heap.size 54 2 v xs.length (flat xs)∧Below w.heap.size w w':=by
 have h1:1≤n:=by omega
 have hf:Fence.wide.fn 254:=trivial;refine callsIn_of_wp Tryz.func212 rfl trivial ?_ rfl;simp only [Tryz.ntmps212,List.size_toArray,List.length_cons,List.length_nil,Nat.reduceAdd,Nat.reduceSub,Array.replicate_succ,Array.replicate_zero,List.push_toArray,List.append_toArray,List.nil_append,List.cons_append]
 gi_wp2_with (gi_at_call 254;refine (O7 (n:=n-1) (by omega) hlen hB Zk hc).mono ?_;rintro e w' ⟨v,rfl,hrow,hb⟩)
 go_ret
 exact ⟨v,rfl,hrow,hb⟩
end Go.Proofs.YthppjmoncapdfaaGreatDoor.cl
set_option linter.unusedVariables false
set_option linter.unusedSimpArgs false
set_option maxRecDepth 100000
set_option maxHeartbeats 2000000
namespace Go.Proofs.YthppjmoncapdfaaGreatDoor.cl
open Go Go.AM Go.RowKit
attribute [local go_sem] Oper.semAt_some
def Al.c2 {S:SK} {μ:Mu} (x:Al S μ):C2:=⟨x.cells,x.len,x.one⟩
theorem N5 {S:SK} {μ:Mu} (iQ:List (Al S μ)):flat (iQ.map Al.c2)=(iQ.map Al.cells).flatten:=by
 simp [flat,Al.c2,Function.comp_def]
theorem Qi {μ:Mu} {loc:Nat→Value} {w:World} {xs:List (List AV)} {l:List (Int×Int)} {u:Value} (dQ:BU μ w) (hl:qY xs=some l) (hap:B4 l=true) (hlen:l.length≤1073741824) (hu:rep μ (.fn 214 [.ref [.aW 2 xs]]) u):
  Calls P 165 #[u, .func (.func 167) #[] #[]] w fun e w'=>∃v μ' loc',e= .returned v∧dM False μ loc [] (.dI [.dI [.self 54, .aW 2 ((gZ WS l).map Ju)]]) [] w v μ' loc' w':=by
 have hxs:=yX hl;subst hxs;rw [rep.eq_def] at hu;dsimp only at hu;obtain ⟨vs,rfl,p,vs',rfl,hp,Sv⟩:=hu;have:vs'=[]:=Sv;subst this;rw [rep.eq_def] at hp;dsimp only at hp;obtain ⟨b,off,cs,rfl,⟨sl,cs',rfl,xx,hcs'⟩,h1c,hc⟩:=hp;have:cs'=[]:=hcs';subst this;have Ys:=hc 0 sl rfl;rw [Nat.add_zero] at Ys;rw [rep.eq_def] at xx;dsimp only at xx;obtain ⟨A,c,rfl,hc1,CD,hA⟩:=xx;have hcell:=nZ (dQ _ _ _ Ys) rfl;have hlt:=gW (dQ _ _ _ Ys);obtain ⟨iQ,ha1,hcc⟩:∃iQ:List (Al Zg μ),iQ.map (fun x=>x.1.1)=l∧(iQ.map Al.c2=[]∨∃b off,A=some ⟨b,off,none⟩∧b<w.heap.size∧∀j u,(flat (iQ.map Al.c2))[j]? =some u→w.cell? ⟨b,off+j,none⟩=some u):=by
  rcases hA with h0|⟨b',off',ea,hrow⟩
  ·have:l=[]:=by simpa using h0
   subst this;exact ⟨[],rfl, .inl rfl⟩
  ·obtain ⟨us,k1,k2⟩:=oq hrow
   have k3:=gO k1;obtain ⟨iQ,e1,e2⟩:=Rp (S:=Zg) (l:=l) (fun p _=>trivial) k1;refine ⟨iQ,e1,?_⟩;cases hl0:iQ with
   |nil=>exact .inl rfl
   |cons x0 als0=>
    rw [←hl0];refine .inr ⟨b',off',ea,?_,fun j u hj=> ?_⟩
    ·have hx:=x0.len
     obtain ⟨u0,tW⟩:∃u0,us[0]? =some u0:=by
      rw [e2,hl0];cases hx':x0.cells with
      |nil=>rw [hx'] at hx;simp at hx
      |cons a t=>exact ⟨a,by simp [hx']⟩
     exact gW (dQ _ _ _ (k2 0 u0 tW))
    ·rw [N5,←e2] at hj
     exact nZ (dQ _ _ _ (k2 j u hj)) (k3 u (List.mem_of_getElem? hj))
 have hal:(iQ.map Al.c2).length=l.length:=by rw [←ha1];simp
 have Sg:(l.map Ju).length=(iQ.map Al.c2).length:=by rw [hal];simp
 rw [Sg] at hcell;refine (callsIn_wide (n:=9)).1 ?_;have hf1:Fence.wide.fn 212:=trivial;have hf2:Fence.wide.fn 213:=trivial;have hn:1≤9:=by decide
 refine callsIn_of_wp Tryz.func165 rfl trivial ?_ rfl;simp only [Tryz.ntmps165,List.size_toArray,List.length_cons,List.length_nil,Nat.reduceAdd,Nat.reduceSub,Array.replicate_succ,Array.replicate_zero,List.push_toArray,List.append_toArray,List.nil_append,List.cons_append]
 gi_wp2_with (gi_at_call 212;refine (LD (n:=8) (by omega) (xs:=iQ.map Al.c2) (by omega) hlt hcell hcc).mono ?_;rintro e w1 ⟨v,rfl,hrow,hb⟩)
 have CH:BU μ w1:=fun b j x hx=>by
  have h:=dQ b j x hx;rw [dK (hb.block b (gW h)) j];exact h
 have hbase:∀g,fE v g→w.heap.size≤g:=fun g hg=>by
  rcases hrow.2 with ⟨e,_⟩|⟨g',cap,cur,e,h2,_⟩
  ·rw [e] at hg;rcases hg with hg|⟨us,hg,_⟩<;>cases hg
  ·rw [e] at hg
   rcases hg with hg|⟨us,hg,_⟩
   ·cases hg;exact h2
   ·cases hg
 have oc:∀g,fE v g→∀j,μ g j=none:=fun g hg j=>by
  cases hm:μ g j with
  |none=>rfl
  |some x=>have:=gW (dQ _ _ _ hm);have:=hbase g hg;omega
 have hrc:bZ μ 2 (l.map Ju) (flat (iQ.map Al.c2)):=by
  rw [N5,←ha1,List.map_map];exact TW iQ
 have cu:ig w1.heap.size (fL False (fun _=>v) [10000]) μ (fun _=>v) w1 10000 (.row 54 2 (l.map Ju)):=by
  refine ⟨_,?_,hrc,fun g hg=>⟨.inr ⟨v,by simp [fL],hg⟩,oc g hg⟩⟩;rw [Sg];refine ⟨hrow.1,?_⟩;rcases hrow.2 with h|⟨g,cap,cur,h1,_,h2⟩
  ·exact .inl h
  ·exact .inr ⟨g,cap,cur,h1,Nat.zero_le _,h2⟩
 have hs:=Uk (S:=Zg) (l:=l) Tryz.VF Tryz.isAgg54 Tryz.sizeOf54 hlen (by rw [Rh];exact O5 hap) (fun p _=>trivial) CH cu;rw [Rh] at hs;refine ((callsIn_wide (n:=8)).2 hs).mono ?_
 rintro e w2 ⟨v2,μ2,jv,rfl,hP⟩
 gi_wp2
 go_ret
 have iB:=hP.fix 10000 (by simp) (by decide);obtain ⟨vs2,uu,Gg,hbl2⟩:=hP.obs 10000 _ rfl;rw [iB] at uu hbl2;have hin:∀g,aU v=some g→fE v g:=fun g hg=> .inl hg
 have hk:∀b,b<w.heap.size→w2.heap[b]? =w.heap[b]? :=fun b hlt=>
  (hP.keep b (Nat.lt_of_lt_of_le hlt hb.size) (by
   rintro ⟨id,v',h1,h2⟩
   have:v'=v:=by
    simp only [fL] at h1;split at h1
    ·exact (Option.some.inj h1).symm
    ·cases h1
   rw [this] at h2
   have:=hbase b h2;omega)).trans (hb.block b hlt)
 refine ⟨_,μ2,loc,rfl,?_⟩
 exact {
  ext:=⟨hP.ext.1,fun b j x hx=>(hP.ext.2 b j x hx).imp id fun h=>Nat.le_trans hb.size h⟩
  oZ:=hP.oZ
  res:= .inr (.inr ⟨54,2,_,vs2,rfl,uu,Gg,fun g hg=>⟨hbase g (hin g hg),(hbl2 g (hin g hg)).2,fun id o h=>by cases h⟩⟩)
  obs:=fun id o h=>by cases h
  apart:=fun i j oi oj h=>by cases h
  keep:=fun b hlt _=>hk b hlt
  fix:=fun id h=>by cases h
  os:=hP.os.trans hb.os
  tape:=hP.tape.trans hb.tape
  output:=hP.output.trans hb.output
  grown:=Nat.le_trans hb.size hP.grown
  drawn:=fun h=>h.elim }
theorem P0 {q:Qp} {B:Mu}:dL q B P (fun _ _ _=>none):=by
 intro g args bT r dO hv;cases hv
noncomputable def SH (m:Nat):Option (AV×List (Nat×Ob)):=jo P cq.Hq (fun _ _ _=>none) 6 83 [.pv (.int .i64 (.ofNat m))] []
theorem SJ:((List.range 100).all fun m=>match SH m with
  |some (.str s,[])=>decide (s=Jn m)
  |_=>false)=true:=by kernel_rfl
theorem SL {m:Nat} (h:m<100):SH m=some (.str (Jn m),[]):=by
 have:=List.all_eq_true.1 SJ m (by simpa using h);revert this;generalize SH m=r;intro this;split at this
 ·rw [of_decide_eq_true this]
 ·cases this
theorem VA:dL False (fun _ _=>none) P (jo P cq.Hq (fun _ _ _=>none) 6):=
 Aq ok (fun f fn c _ _=>iP.none (L3 f) c) P0 6
end Go.Proofs.YthppjmoncapdfaaGreatDoor.cl
set_option linter.unusedVariables false
set_option linter.unusedSimpArgs false
set_option maxRecDepth 100000
namespace Go.Proofs.YthppjmoncapdfaaGreatDoor.cl.cy
open Go Go.AM
def dg:cL:=fun f args bT=>match f,args,bT with
 |57,[.pv (.aW 1 xs)],[]=>bif Nat.ble (xs.length *8) 140737488355328 then some (.dI [.dI [.self 3, .aW 1 xs]],[]) else none
 |2000000,[.pv (.int .i64 n), .pv (.aW 1 p), .row 10000],[(10000, .lp out)]=>match n with
  | .ofNat m=>bif Nat.blt m out.length then some (.bool true,[(10000, .lp (out.set m (.aW 1 p)))]) else none
  | .negSucc _=>none
 |_,_,_=>none
noncomputable abbrev Rn:cL:=run P cq.Hq dg
def Q0:Unit→AV:=(fun (_:Unit)=>AV.dI [])
instance:cQ Q0:=⟨fun a b h=>rfl⟩
def Q1:Bool→AV:=(fun (x:Bool)=>((.bool x):AV))
instance:cQ Q1:=⟨fun a b h=>by
 simp only [Q1,AV.mp.injEq,AV.int.injEq,AV.str.injEq,AV.bool.injEq,AV.aW.injEq,AV.agg.injEq,AV.dI.injEq,List.cons.injEq,true_and,and_true] at h
 exact h⟩
def Q2:(List Int)→AV:=(fun (x:List Int)=>(AV.dI [AV.dI [AV.self 3,AV.aW 1 (List.map (aD .i64) x)]]:AV))
instance:cQ Q2:=⟨fun a b h=>by
 simp only [Q2,AV.mp.injEq,AV.int.injEq,AV.str.injEq,AV.bool.injEq,AV.aW.injEq,AV.agg.injEq,AV.dI.injEq,List.cons.injEq,true_and,and_true] at h
 exact map_inj cQ.inj _ _ h⟩
abbrev R460.T:Type:=List Int
abbrev R492.T:Type:=Unit
def Uh:List (Nat×mF):=[(57,⟨_,Q2⟩),(82,⟨_,Q0⟩),(2000000,⟨_,Q1⟩)]
def kj:iy:={ elem:=vJ elems,val:=vJ vals,res:=vJ Uh }
noncomputable def f460 (s0:List Int):Option (List Int):=dec (EN Q2) (Rn 57 [(.pv (.aW 1 (List.map (aD .i64) s0)))] [])
abbrev ua.T:Type:=Unit×(List AV)
def ua:ua.T→Out:=(fun x:Unit×(List AV)=>((Q0 x.1,[(10000, .lp x.2)]):Out))
instance:cQ ua:=⟨fun a b h=>by
 obtain ⟨a0,a1⟩:=a;obtain ⟨b0,b1⟩:=b;simp only [ua,Prod.mk.injEq,List.cons.injEq,Ob.row.injEq,Ob.mp.injEq,Ob.lp.injEq,Ob.box.injEq,and_true,true_and] at h;have h0:a0=b0:=rfl;have h1:=h
 rw [h0,h1]⟩
noncomputable def f492 (a1:FSt) (dW:List AV):Option (Unit×(List AV)):=dec ua (Rn 82 [(.cl 2000000 [.r 10000]),(.pv (.ref (FSt.enc a1)))] [(10000,(.lp dW))])
noncomputable def z8 (v1:FSt) (i6:Int) (s8:List Bool) (fZ:List Int) (rE:List (List Int)) (fQ:List AV):Option (Unit×(List AV)):=dec ua (nR P kj cq.Hq dg 82 4 [10000] [(0,(.cl 2000000 [.r 10000])),(1,(.pv (.ref (FSt.enc v1)))),(3,(.row 12)),(4,(.row 15)),(5,(.row 16)),(6,(.pv (.int .i64 i6)))] [(12,(.row 4 1 (List.map kA s8))),(15,(.row 3 1 (List.map (aD .i64) fZ))),(16,(.row 60 1 (List.map (bD 1 (aD .i64)) rE))),(10000,(.lp fQ))])
noncomputable def w5 (v1:FSt) (i6:Int) (v42:List aF) (yM v44:Int) (s8:List Bool) (fZ:List Int) (rE:List (List Int)) (fQ:List AV):Option (Unit×(List AV)):=dec ua (nR P kj cq.Hq dg 82 8 [10000] [(0,(.cl 2000000 [.r 10000])),(1,(.pv (.ref (FSt.enc v1)))),(3,(.row 12)),(4,(.row 15)),(5,(.row 16)),(6,(.pv (.int .i64 i6))),(42,(.pv (.aW 2 (List.map aF.enc v42)))),(43,(.pv (.int .i64 yM))),(44,(.pv (.int .i64 v44)))] [(12,(.row 4 1 (List.map kA s8))),(15,(.row 3 1 (List.map (aD .i64) fZ))),(16,(.row 60 1 (List.map (bD 1 (aD .i64)) rE))),(10000,(.lp fQ))])
abbrev EO.T:Type:=Bool×(List AV)
def EO:EO.T→Out:=(fun x:Bool×(List AV)=>((Q1 x.1,[(10000, .lp x.2)]):Out))
instance:cQ EO:=⟨fun a b h=>by
 obtain ⟨a0,a1⟩:=a;obtain ⟨b0,b1⟩:=b;simp only [EO,Prod.mk.injEq,List.cons.injEq,Ob.row.injEq,Ob.mp.injEq,Ob.lp.injEq,Ob.box.injEq,and_true,true_and] at h;obtain ⟨h0,h1⟩:=h
 rw [cQ.inj _ _ h0,h1]⟩
noncomputable def f493 (a0:Int) (a1:List Int) (dW:List AV):Option (Bool×(List AV)):=dec EO (Rn 2000000 [(.pv (.int .i64 a0)),(.pv (.aW 1 (List.map (aD .i64) a1))),(.row 10000)] [(10000,(.lp dW))])
theorem e492 (a1:FSt) (dW:List AV) {r:(Unit×(List AV))}
 (h:(
 check (0≤((List.length a1.aj:Int):Int)∧((List.length a1.aj:Int):Int)≤(List.length a1.aj:Int)∧1 *Int.toNat (List.length a1.aj:Int)≤281474976710656∧((List.length a1.aj:Int):Int)≤9223372036854775807) (
 check (0≤(0:Int)∧Int.toNat 0<List.length (List.replicate (Int.toNat (List.length a1.aj:Int)) false)) (
 ec (List.replicate (Int.toNat (List.length a1.aj:Int)) false) (Int.toNat 0) fun aN=>
 z8 a1 0 ((List.replicate (Int.toNat (List.length a1.aj:Int)) false).set (Int.toNat 0) true) [0] ([([]:List Int)]:List (List Int)) dW)):Option (Unit×(List AV)))=some r):
 f492 a1 dW=some r:=
 lN (E:=ua) h (
 aY (p:=0≤((List.length (List.map Node.enc a1.aj):Int):Int)∧((List.length (List.map Node.enc a1.aj):Int):Int)≤(List.length (List.map Node.enc a1.aj):Int)∧1 *Int.toNat (List.length (List.map Node.enc a1.aj):Int)≤281474976710656∧((List.length (List.map Node.enc a1.aj):Int):Int)≤9223372036854775807) (by simp only [List.length_map];exact id) (
 aY (p:=0≤(0:Int)∧Int.toNat 0<List.length (List.replicate (Int.toNat (List.length (List.map Node.enc a1.aj):Int)) (kA false))) (by simp only [List.length_map,List.map_replicate,List.length_replicate];exact id) (
 K6 (enc:=kA) (L:=(List.replicate (Int.toNat (List.length (List.map Node.enc a1.aj):Int)) (kA false))) (by simp only [List.length_map,List.map_replicate,List.length_replicate]) fun aN=>
 (show fD _ (nR P kj cq.Hq dg 82 4 [10000] [(0,(.cl 2000000 [.r 10000])),(1,(.pv (.ref (FSt.enc a1)))),(3,(.row 12)),(4,(.row 15)),(5,(.row 16)),(6,(.pv (.int .i64 0)))] [(12,(.row 4 1 ((List.replicate (Int.toNat (List.length (List.map Node.enc a1.aj):Int)) (kA false)).set (Int.toNat 0) (kA true)))),(15,(.row 3 1 (List.map (aD .i64) [0]))),(16,(.row 60 1 (List.map (bD 1 (aD .i64)) [([]:List Int)]))),(10000,(.lp dW))]) ( z8 a1 0 ((List.replicate (Int.toNat (List.length a1.aj:Int)) false).set (Int.toNat 0) true) [0] ([([]:List Int)]:List (List Int)) dW) from fun _ h=>by simpa only [List.length_map,List.map_set,List.length_set,List.map_replicate,List.length_replicate] using ef _ _ _ h))))
 (by kernel_rfl) (fun h=>je (C:=kj) rfl h)
theorem YC (v1:FSt) (i6:Int) (s8:List Bool) (fZ:List Int) (rE:List (List Int)) (fQ:List AV) {r:(Unit×(List AV))}
 (h:(
 bif (decide (i6<(List.length fZ:Int))) then (
 check (0≤i6∧Int.toNat i6<List.length fZ) (
 ec fZ (Int.toNat i6) fun aN=>
 check (0≤i6∧Int.toNat i6<List.length rE) (
 ec rE (Int.toNat i6) fun de=>
 NK (f493 aN de fQ) fun dB mC=>
 bif (!dB) then (
 some ((),mC))
 else (
 check (0≤i6∧Int.toNat i6<List.length fZ) (
 ec fZ (Int.toNat i6) fun iL=>
 bS v1.aj iL fun jf=>
 w5 v1 i6 jf.cO (List.length jf.cO:Int) 0 s8 fZ rE mC)))))
 else (
 some ((),fQ)):Option (Unit×(List AV)))=some r):
 z8 v1 i6 s8 fZ rE fQ=some r:=
 lN (E:=ua) h (
 gR (c:=(decide (i6<(List.length (List.map (aD .i64) fZ):Int)))) (by simp only [List.length_map]) (
 aY (p:=0≤i6∧Int.toNat i6<List.length (List.map (aD .i64) fZ)) (by simp only [List.length_map];exact id) (
 In (aD .i64) fun aN=>
 aY (p:=0≤i6∧Int.toNat i6<List.length (List.map (bD 1 (aD .i64)) rE)) (by simp only [List.length_map];exact id) (
 In (bD 1 (aD .i64)) fun de=>
 IV (kk:=fun Ud Tv=>ai 10000 Tv fun yg CU=>Ru yg fun mC=>eF CU<|cD Q1 Ud fun dB=>
 bif (!dB) then (
 some ((.dI []),[(10000,(.lp mC))]))
 else (
 check (0≤i6∧Int.toNat i6<List.length (List.map (aD .i64) fZ)) (
 ec (List.map (aD .i64) fZ) (Int.toNat i6) fun Ls=>cD (aD .i64) Ls fun iL=>
 bS (List.map Node.enc v1.aj) iL fun Xv=>cD Node.enc Xv fun jf=>
 nR P kj cq.Hq dg 82 8 [10000] [(0,(.cl 2000000 [.r 10000])),(1,(.pv (.ref (FSt.enc v1)))),(3,(.row 12)),(4,(.row 15)),(5,(.row 16)),(6,(.pv (.int .i64 i6))),(42,(.pv (.aW 2 (List.map aF.enc jf.cO)))),(43,(.pv (.int .i64 (List.length (List.map aF.enc jf.cO):Int)))),(44,(.pv (.int .i64 0)))] [(12,(.row 4 1 (List.map kA s8))),(15,(.row 3 1 (List.map (aD .i64) fZ))),(16,(.row 60 1 (List.map (bD 1 (aD .i64)) rE))),(10000,(.lp mC))]))) Iz fun dB mC=>az (Xc (xs:=mC) (fV (fW (enc:=Q1) (y:=dB) (
 Ic (
 ff rfl) (
 aY (p:=0≤i6∧Int.toNat i6<List.length (List.map (aD .i64) fZ)) (by simp only [List.length_map];exact id) (
 In (aD .i64) fun iL=>
 Ig Node.enc fun jf=>
 (show fD _ (nR P kj cq.Hq dg 82 8 [10000] [(0,(.cl 2000000 [.r 10000])),(1,(.pv (.ref (FSt.enc v1)))),(3,(.row 12)),(4,(.row 15)),(5,(.row 16)),(6,(.pv (.int .i64 i6))),(42,(.pv (.aW 2 (List.map aF.enc jf.cO)))),(43,(.pv (.int .i64 (List.length (List.map aF.enc jf.cO):Int)))),(44,(.pv (.int .i64 0)))] [(12,(.row 4 1 (List.map kA s8))),(15,(.row 3 1 (List.map (aD .i64) fZ))),(16,(.row 60 1 (List.map (bD 1 (aD .i64)) rE))),(10000,(.lp mC))]) ( w5 v1 i6 jf.cO (List.length jf.cO:Int) 0 s8 fZ rE mC) from fun _ h=>by simpa only [List.length_map] using ef _ _ _ h)))))))))) (
 Is))
 (by kernel_rfl) (fun h=>mN h)
theorem Tu (v1:FSt) (i6:Int) (v42:List aF) (yM v44:Int) (s8:List Bool) (fZ:List Int) (rE:List (List Int)) (fQ:List AV) {r:(Unit×(List AV))}
 (h:(
 bif (decide (v44<yM)) then (
 bS v42 v44 fun aN=>
 check (0≤aN.To∧Int.toNat aN.To<List.length s8) (
 ec s8 (Int.toNat aN.To) fun de=>
 bif (!de) then (
 check (0≤aN.To∧Int.toNat aN.To<List.length s8) (
 ec s8 (Int.toNat aN.To) fun gX=>
 check ((List.length fZ+List.length [aN.To]) *8≤140737488355328∧List.length fZ+List.length [aN.To]≤4611686018427387904) (
 check (0≤i6∧Int.toNat i6<List.length rE) (
 ec rE (Int.toNat i6) fun jI=>
 Option.bind (f460 jI) fun gy=>
 check ((List.length gy+List.length [aN.aP]) *8≤140737488355328∧List.length gy+List.length [aN.aP]≤4611686018427387904) (
 check ((List.length rE+List.length ([(gy++[aN.aP])]:List (List Int))) *24≤140737488355328∧List.length rE+List.length ([(gy++[aN.aP])]:List (List Int))≤4611686018427387904) (
 w5 v1 i6 v42 yM (IntKind.wrap .i64 (v44+1)) (s8.set (Int.toNat aN.To) true) (fZ++[aN.To]) (rE++([(gy++[aN.aP])]:List (List Int))) fQ))))))
 else (
 w5 v1 i6 v42 yM (IntKind.wrap .i64 (v44+1)) s8 fZ rE fQ)))
 else (
 z8 v1 (IntKind.wrap .i64 (i6+1)) s8 fZ rE fQ):Option (Unit×(List AV)))=some r):
 w5 v1 i6 v42 yM v44 s8 fZ rE fQ=some r:=
 lN (E:=ua) h (
 Ic (
 Ig aF.enc fun aN=>
 aY (p:=0≤aN.To∧Int.toNat aN.To<List.length (List.map kA s8)) (by simp only [List.length_map];exact id) (
 In kA fun de=>
 Ic (
 aY (p:=0≤aN.To∧Int.toNat aN.To<List.length (List.map kA s8)) (by simp only [List.length_map];exact id) (
 In kA fun gX=>
 aY (p:=(List.length (List.map (aD .i64) fZ)+List.length (List.map (aD .i64) [aN.To])) *8≤140737488355328∧List.length (List.map (aD .i64) fZ)+List.length (List.map (aD .i64) [aN.To])≤4611686018427387904) (by simp only [List.length_map];exact id) (
 aY (p:=0≤i6∧Int.toNat i6<List.length (List.map (bD 1 (aD .i64)) rE)) (by simp only [List.length_map];exact id) (
 In (bD 1 (aD .i64)) fun jI=>
 Ik fun gy=>
 aY (p:=(List.length (List.map (aD .i64) gy)+List.length (List.map (aD .i64) [aN.aP])) *8≤140737488355328∧List.length (List.map (aD .i64) gy)+List.length (List.map (aD .i64) [aN.aP])≤4611686018427387904) (by simp only [List.length_map];exact id) (
 aY (p:=(List.length (List.map (bD 1 (aD .i64)) rE)+List.length ([[(.aW 1 ((List.map (aD .i64) gy)++(List.map (aD .i64) [aN.aP])))]]:List (List AV))) *24≤140737488355328∧List.length (List.map (bD 1 (aD .i64)) rE)+List.length ([[(.aW 1 ((List.map (aD .i64) gy)++(List.map (aD .i64) [aN.aP])))]]:List (List AV))≤4611686018427387904) (by simp only [List.length_map,List.map_append,List.length_append,List.map_cons,List.map_nil,List.length_cons,List.length_nil,bD];exact id) (
 (show fD _ (nR P kj cq.Hq dg 82 8 [10000] [(0,(.cl 2000000 [.r 10000])),(1,(.pv (.ref (FSt.enc v1)))),(3,(.row 12)),(4,(.row 15)),(5,(.row 16)),(6,(.pv (.int .i64 i6))),(42,(.pv (.aW 2 (List.map aF.enc v42)))),(43,(.pv (.int .i64 yM))),(44,(.pv (.int .i64 (IntKind.wrap .i64 (v44+1)))))] [(12,(.row 4 1 ((List.map kA s8).set (Int.toNat aN.To) (kA true)))),(15,(.row 3 1 ((List.map (aD .i64) fZ)++(List.map (aD .i64) [aN.To])))),(16,(.row 60 1 ((List.map (bD 1 (aD .i64)) rE)++([[(.aW 1 ((List.map (aD .i64) gy)++(List.map (aD .i64) [aN.aP])))]]:List (List AV))))),(10000,(.lp fQ))]) ( w5 v1 i6 v42 yM (IntKind.wrap .i64 (v44+1)) (s8.set (Int.toNat aN.To) true) (fZ++[aN.To]) (rE++([(gy++[aN.aP])]:List (List Int))) fQ) from fun _ h=>by simpa only [List.map_append,List.map_set,List.map_cons,List.map_nil,List.length_cons,List.length_nil,bD] using ef _ _ _ h))))))) (
 Iz))) (
 Iz))
 (by kernel_rfl) (fun h=>mN h)
end Go.Proofs.YthppjmoncapdfaaGreatDoor.cl.cy
set_option linter.unusedVariables false
set_option linter.unusedSimpArgs false
namespace Go.Proofs.YthppjmoncapdfaaGreatDoor.cl.cy
open Go Go.AM
def eP (p:List Int):AV:= .aW 1 (p.map (aD .i64))
def A9 (l:List (Int×Int)):List aF:=l.map fun a=>⟨a.1,a.2⟩
def nodes (g:List ud):List Node:=g.map fun x=>⟨x.1,A9 x.2⟩
theorem y_at {n:Nat} {p:List Int} {out:List AV} (h:n<out.length):f493 (n:Int) p out=some (true,out.set n (eP p)):=by
 refine fG (E:=EO) ?_;refine lC ?_;show (bif Nat.blt n out.length then _ else _)=_;rw [show Nat.blt n out.length=true from Nat.ble_eq_true_of_le h];rfl
theorem c_at {l:List Int} (hl:l.length≤1073741824):f460 l=some l:=by
 refine fG (E:=EN Q2) ?_;refine lC ?_;have hb:Nat.ble ((List.map (aD .i64) l).length *8) 140737488355328=true:=Nat.ble_eq_true_of_le (by rw [List.length_map];omega);show (bif Nat.ble ((List.map (aD .i64) l).length *8) 140737488355328 then _ else _)=_;rw [hb];rfl
theorem rS:∀(ns:List Int) (ps out:List (List Int)) (t:Int) (p:List Int),ns.length=ps.length→x8 out (ns++[t]) (ps++[p])=(x8 out ns ps).set t.toNat p
 |[],[],_,_,_,_=>rfl
 |n::ns,q::ps,out,t,p,h=>rS ns ps (out.set n.toNat q) t p (by simpa using h)
theorem AG:∀(ns:List Int) (ps out:List (List Int)),(x8 out ns ps).length=out.length
 |[],ps,_=>by cases ps<;>rfl
 |n::ns,[],_=>rfl
 |n::ns,q::ps,out=>by rw [x8,AG ns ps];simp
theorem xR:∀{l:List Bool} {m:Nat},l[m]? =some false→((l.set m true).filter id).length=(l.filter id).length+1
 |b::l,0,h=>by simp at h;subst h;rfl
 |b::l,m+1,h=>by
  have:=xR (l:=l) (m:=m) (by simpa using h);cases b<;>simp [this]
structure Inv (N:Nat) (seen:List Bool) (ns:List Int) (ps:List (List Int)):Prop where
 sl:seen.length=N
 le:ns.length=ps.length
 ct:ns.length≤(seen.filter id).length
 pl:∀(k:Nat) (p:List Int),ps[k]? =some p→p.length≤k
 nb:∀n∈ns,0≤n∧n.toNat<N
theorem Inv.bd {N:Nat} {seen:List Bool} {ns:List Int} {ps:List (List Int)} (h:Inv N seen ns ps):ns.length≤N:=
 Nat.le_trans h.ct (by rw [←h.sl];exact List.length_filter_le _ _)
theorem Xa {j:Nat} (h:j<9223372036854775807):IntKind.wrap .i64 ((j:Int)+1)=((j+1:Nat):Int):=by
 rw [iK (by omega) (by omega)];omega
theorem inner {N:Nat} (hN:N≤1073741824) {v:FSt} {i:Nat} {log:List AV} {r:Unit×List AV} {p:List Int} {V:List aF} (hV:V.length≤9223372036854775807):∀(l:List (Int×Int)) (j:Nat) (seen:List Bool) (ns:List Int) (ps:List (List Int)) (seen':List Bool) (ns':List Int) (ps':List (List Int)),V.drop j=A9 l→Ba p l seen ns ps=some (seen',ns',ps')→Inv N seen ns ps→ps[i]? =some p→
  (Inv N seen' ns' ps'→ns<+:ns'→ps<+:ps'→z8 v ((i+1:Nat):Int) seen' ns' ps' log=some r)→w5 v (i:Int) V (V.length:Int) (j:Int) seen ns ps log=some r:=by
 intro l
 induction l with
 |nil=>
  intro j seen ns ps seen' ns' ps' hd hb I hp K;simp only [Ba,Option.some.injEq,Prod.mk.injEq] at hb;obtain ⟨rfl,rfl,rfl⟩:=hb;have hj:V.length≤j:=by
   have:=congrArg List.length hd;simp [A9] at this;omega
  have hil:=(List.getElem?_eq_some_iff.1 hp).1;have:=I.bd;have:=I.le;refine Tu _ _ _ _ _ _ _ _ _ ?_;rw [cond_neg (by simp;omega),cU (by omega)];exact K I (List.prefix_refl _) (List.prefix_refl _)
 |cons a l ih=>
  obtain ⟨f,t⟩:=a;intro j seen ns ps seen' ns' ps' hd hb I hp K;have hj:V[j]? =some ⟨f,t⟩:=by
   have:=congrArg (fun z=>z[0]?) hd;simpa [A9] using this
  have hd':V.drop (j+1)=A9 l:=by
   have:=congrArg List.tail hd;simpa [A9] using this
  have hjl:=(List.getElem?_eq_some_iff.1 hj).1;have hil:=(List.getElem?_eq_some_iff.1 hp).1;have hbd:=I.bd;have hle:=I.le;refine Tu _ _ _ _ _ _ _ _ _ ?_;rw [cond_pos (by simp;omega),eo hj];unfold Ba at hb;cases hs:seen[t.toNat]? with
  |none=>rw [hs] at hb;cases hb
  |some b=>
   rw [hs] at hb;dsimp only at hb;split at hb
   ·cases hb
   ·rename_i ht
    have xx:=(List.getElem?_eq_some_iff.1 hs).1;rw [bY ⟨by show (0:Int)≤t;omega,xx⟩,gq hs];cases b with
    |true=>
     simp only [cond_true] at hb;simp only [Bool.not_true,cond_false];rw [Xa (by omega)];exact ih _ _ _ _ _ _ _ hd' hb I hp K
    |false=>
     simp only [cond_false] at hb;simp only [Bool.not_false,cond_true];have hpp:=I.pl _ _ hp;have hsz:=I.sl;have hct:ns.length+1≤N:=by
      have h1:=xR hs;have h2:=List.length_filter_le id (seen.set t.toNat true);have h3:=I.ct;simp only [List.length_set] at h2;omega
     rw [bY ⟨by show (0:Int)≤t;omega,xx⟩,gq hs,bY (by simp;omega),bY ⟨by omega,by rw [Int.toNat_natCast];exact hil⟩,gq (x:=p) (by rw [Int.toNat_natCast];exact hp),c_at (by omega),aH,bY (by simp;omega),bY (by simp;omega),Xa (by omega)];have I':Inv N (seen.set t.toNat true) (ns++[t]) (ps++[p++[f]]):=by
      refine ⟨by simpa using hsz,by simp [hle],?_,fun k q hq=> ?_,fun n hn=> ?_⟩
      ·rw [xR hs];have:=I.ct;simp;omega
      ·by_cases hk:k<ps.length
       ·rw [List.getElem?_append_left hk] at hq;exact I.pl _ _ hq
       ·have hkl:=(List.getElem?_eq_some_iff.1 hq).1
        have:k=ps.length:=by simp at hkl;omega
        subst this;simp at hq;subst hq;simp;omega
      ·rcases List.mem_append.1 hn with h|h
       ·exact I.nb n h
       ·simp only [List.mem_singleton] at h;subst h
        exact ⟨by omega,by omega⟩
     exact ih _ _ _ _ _ _ _ hd' hb I' (by rw [List.getElem?_append_left hil];exact hp) fun I2 h1 h2=>K I2 ((List.prefix_append _ _).trans h1) ((List.prefix_append _ _).trans h2)
theorem Fu {α:Type} {l l':List α} {i:Nat} {x:α} (h:l[i]? =some x) (hp:l<+:l'):l'.take (i+1)=l'.take i++[x]∧l'.take i=l.take i:=by
 obtain ⟨e,rfl⟩:=hp;have hi:=(List.getElem?_eq_some_iff.1 h).1;refine ⟨?_,by rw [List.take_append_of_le_length (by omega)]⟩;rw [List.take_add_one,List.getElem?_append_left hi,h];rfl
theorem outer {g:List ud} (hN:g.length≤1073741824) (hV:∀x∈g,x.2.length≤9223372036854775807):∀(k i:Nat) (seen:List Bool) (ns:List Int) (ps:List (List Int)) (ns':List Int) (ps':List (List Int)),Wp g k i seen ns ps=some (ns',ps')→Inv g.length seen ns ps→i≤ns.length→
  z8 ⟨nodes g⟩ (i:Int) seen ns ps ((x8 (List.replicate g.length []) (ns.take i) (ps.take i)).map eP)=some ((),(x8 (List.replicate g.length []) ns' ps').map eP):=by
 intro k
 induction k with
 |zero=>intro i seen ns ps ns' ps' hb;cases hb
 |succ k ih=>
  intro i seen ns ps ns' ps' hb I hi;have hle:=I.le;have hbd:=I.bd;refine YC _ _ _ _ _ _ ?_;unfold Wp at hb;by_cases hlt:i<ns.length
  ·obtain ⟨n,hn⟩:∃n,ns[i]? =some n:=⟨_,List.getElem?_eq_getElem hlt⟩
   obtain ⟨p,hp⟩:∃p,ps[i]? =some p:=⟨_,List.getElem?_eq_getElem (by omega)⟩
   rw [hn,hp] at hb;dsimp only at hb;obtain ⟨h0,hnl⟩:=I.nb n (List.mem_of_getElem? hn);obtain ⟨m,rfl⟩:∃m:Nat,n=m:=⟨n.toNat,by omega⟩
   rw [Int.toNat_natCast] at hnl hb;obtain ⟨x,hx⟩:∃x,g[m]? =some x:=⟨_,List.getElem?_eq_getElem hnl⟩
   rw [hx] at hb;dsimp only at hb;have hx':(nodes g)[m]? =some ⟨x.1,A9 x.2⟩:=by simp [nodes,hx]
   rw [cond_pos (by simp;omega),bY ⟨by omega,by rw [Int.toNat_natCast];exact hlt⟩,gq (x:=(m:Int)) (by rw [Int.toNat_natCast];exact hn),bY ⟨by omega,by rw [Int.toNat_natCast];omega⟩,gq (x:=p) (by rw [Int.toNat_natCast];exact hp),y_at (by simp [AG,hnl]),B9];simp only [Bool.not_true,cond_false];rw [bY ⟨by omega,by rw [Int.toNat_natCast];exact hlt⟩,gq (x:=(m:Int)) (by rw [Int.toNat_natCast];exact hn),eo hx'];cases hA:Ba p x.2 seen ns ps with
   |none=>rw [hA] at hb;cases hb
   |some q=>
    obtain ⟨W6,ns2,ps2⟩:=q;rw [hA] at hb;dsimp only at hb;refine inner hN (by simpa [A9] using hV x (List.mem_of_getElem? hx)) x.2 0 seen ns ps W6 ns2 ps2 rfl hA I hp fun I2 h1 h2=> ?_
    have:=ih (i+1) W6 ns2 ps2 ns' ps' hb I2 (by have:=h1.length_le;omega);obtain ⟨a1,a2⟩:=Fu hn h1;obtain ⟨b1,b2⟩:=Fu hp h2;rw [a1,b1,a2,b2,rS _ _ _ _ _ (by simp [hle]),Int.toNat_natCast,List.map_set] at this;exact this
  ·have e1:ns[i]? =none:=List.getElem?_eq_none (by omega)
   have:ns.take i=ns:=List.take_of_length_le (by omega);have h2:ps.take i=ps:=List.take_of_length_le (by omega);rw [e1] at hb;simp only [Option.some.injEq,Prod.mk.injEq] at hb;obtain ⟨rfl,rfl⟩:=hb;rw [cond_neg (by simp;omega),this,h2]
theorem Pu {g:List ud} {ps:List (List Int)} (h0:0<g.length) (hN:g.length≤1073741824) (hV:∀x∈g,x.2.length≤9223372036854775807) (h:sI g=some ps):
  f492 ⟨nodes g⟩ (List.replicate g.length (.aW 1 []))=some ((),ps.map eP):=by
 unfold sI at h;obtain ⟨⟨ns',ps'⟩,hb,rfl⟩:=Option.map_eq_some_iff.1 h;refine e492 _ _ ?_;have hl:(nodes g).length=g.length:=by simp [nodes]
 have hs0:(List.replicate g.length false)[0]? =some false:=by simp [h0]
 have I:Inv g.length ((List.replicate g.length false).set 0 true) [0] [[]]:=by
  refine ⟨by simp,rfl,?_,fun k p hp=> ?_,fun n hn=> ?_⟩
  ·rw [xR hs0];simp
  ·cases k with
   |zero=>simp at hp;subst hp;exact Nat.le_refl _
   |succ k=>simp at hp
  ·simp only [List.mem_singleton] at hn;subst hn
   exact ⟨by omega,by simpa using h0⟩
 have:=outer hN hV (g.length+1) 0 _ _ _ ns' ps' hb I (Nat.zero_le _);show check _ _=_;rw [bY ⟨by omega,by omega,by show 1 *Int.toNat ((nodes g).length:Int)≤_;omega,by show (((nodes g).length:Int))≤_;omega⟩,bY ⟨by omega,by show _<(List.replicate (Int.toNat ((nodes g).length:Int)) false).length;simp;omega⟩];simp only [hl,Int.toNat_natCast,Int.toNat_zero];rw [gq hs0];simpa [x8,eP] using this
end Go.Proofs.YthppjmoncapdfaaGreatDoor.cl.cy
