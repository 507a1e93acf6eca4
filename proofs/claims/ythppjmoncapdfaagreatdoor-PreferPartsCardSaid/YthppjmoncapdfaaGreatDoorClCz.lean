/- slices.Clone, taken as a primitive, is sound. -/
import Derived.Test.YthppjmoncapdfaaGreatDoorClT
import Derived.Test.YthppjmoncapdfaaGreatDoorClQb
import Derived.WalkKit
import Derived.Lib.SliceRun
import Derived.Lib.Walk
import Derived.Shelf.RegionOpenPlain
import Derived.Deep.LoopGhost
import Derived.RangeFuncWrites
import Derived.RangeFuncLeaves
import Derived.RangeFuncBox
import Derived.RangeFuncNested
import Derived.OwnWalkIn
import Derived.TacticsInMore
import Derived.LoopNIn
import Derived.LoopIn
import Derived.Test.YthppjmoncapdfaaGreatDoorClQd
set_option linter.all false
set_option maxRecDepth 100000
set_option maxHeartbeats 2000000
open Go.IntKind (wrap)
open Int (toNat)
open List (length replicate)
namespace Go.Proofs.YthppjmoncapdfaaGreatDoor.cl
open Go Go.AM Go.RowKit
def yD {H:Mu} {G:Nat->Value} {w Q:World} {e K:Nat} {xs:List (List AV)} {v:Value} {vs:List Value} {q:Qp} (U:q.p->False) (z:Bf H w) (B:Below w.heap.size w Q) (l:Q.ownsRow w.heap.size e K v xs.length vs) (P:bS H K xs vs):
  dY q H G [] (.jy [.jy [.self e, .c4 K xs]]) [] w v H G Q where
 ext:=⟨Mu.le.refl _,λ_ _ _ h=> .inl h⟩
 qk:=λb j x V=>by have h:=z b j x V;rw[dW (B.block b (jx h)) j];exact h
 res:= .inr (.inr ⟨e,K,xs,vs,rfl,by
  refine⟨l.1,?_⟩;rcases l.2 with h|⟨g,D,F,R,_,L⟩
  .exact .inl h
  .exact .inr ⟨g,D,F,R,cB _,L⟩,P,λg I=>by
  have N:w.heap.size<=g:=by
   rcases l.2 with⟨h,_⟩|⟨W,D,F,h,L,_⟩
   .rw[h] at I;cases I
   .rw[h] at I;cases I;exact L
  refine⟨N,λj=> ?_,λid o h=>by cases h⟩;cases S:H g j with
  |none=>rfl
  |some x=>have:=jx (z _ _ _ S);omega⟩)
 obs:=λid o h=>by cases h
 apart:=λi j oi oj h=>by cases h
 keep:=λb O _=>B.block b O
 fix:=λid h=>by cases h
 os:=B.os
 tape:=B.tape
 output:=B.output
 grown:=B.size
 drawn:=λh=>(U h).elim
def GR {D:Mu} {w:World} {I:Nat} {xs:List (List AV)} {a:Addr} (q:Bf D w) (N:xs.length=0\/∃b l,some a=some ⟨b,l,none⟩/\iI D I b xs l):
  ∃B,bS D I xs B/\(∀u∈B,u.oneCell'=true)/\∀j u,B[j]? =some u->w.cell? (a.add j)=some u:=by
 rcases N with L|⟨b,l,K,z⟩
 .have:xs=[]:=by simpa using L
  subst this;exact⟨[],rfl,by simp,ah⟩
 .cases K;obtain⟨B,H,O⟩:=pH z;have F:=jq H
  exact⟨B,H,F,λj u G=>by
   rw[Addr.add_lit]
   exact oW (q _ _ _ (O j u G)) (F u (aS G))⟩
def Lh {μ:Mu} {loc:Nat->Value} {w:World} {xs:List (List AV)} {u:Value} {q:Qp} (hq:q.p->False) (oS:Bf μ w) (hu:rep μ (.c4 1 xs) u) (hbig:xs.length *8<=140737488355328):
  Calls P 57 #[u] w λe w'=>∃v μ' loc',e= .returned v/\dY q μ loc [] (.jy [.jy [.self 3, .c4 1 xs]]) [] w v μ' loc' w':=by
 rw[rep.eq_def] at hu;dsimp only at hu;obtain⟨A,c,rfl,hc1,QS,hA⟩:=hu;have qn:∀(w:World) (a:Option Addr) (n c n' c':Nat),(binOp .eql 60 (.slice a n c) (.slice none n' c')).run P w= .ok (.bool a.isNone) w:=λw a n c n' c'=>Lib.run_eql_slice_nil w _ _ a n c n' c' Tryz.underlying60
 cases A with
 |none=>
  have h0:xs=[]:=by
   rcases hA with h|⟨b,off,e,_⟩
   .simpa using h
   .cases e
  subst h0
  go_enter Tryz.func57,Tryz.ntmps57
  go_wp2
  go_ret
  exact⟨_,μ,loc,rfl,yD hq oS (fZ _ _) (vs:=[]) ⟨rfl, .inl ⟨rfl,rfl⟩⟩ rfl⟩
 |some a=>
  obtain⟨us,wD,h1,hcell⟩:=GR oS hA;have DF:=bV wD;obtain⟨i0,hi,OV,Ww,Wx⟩:=info_parts (show(P.info? 3).map (λi=>(i.zero,i.size,i.bytes))=some (some (.int .i64 0),1,8) by kernel_rfl);have u60:∀w,Sem.run P (underlying 60) w= .ok (TypeDesc.slice 3) w:=aU Tryz.underlying60
  go_enter Tryz.func57,Tryz.ntmps57
  go_wp2_with (at_builtin;refine wpList_append_own _ rfl _ _ 60 rfl w.heap.size 3 i0 (.int .i64 0) 1 8 Tryz.underlying60 hi OV Ww Wx rfl (by decide) _ _ _ rfl (World.ownsRow_made w #[] 0 (aJ _) (cB _) rfl) a xs.length c us rfl ?qc1 ?qc2 h1 ?qc4 ?qc5 ?qc6 ?_)
  case qc1=>exact DF
  case qc2=>exact λj u hj=>Lib.cell?_alloc_some _ (hcell j u hj)
  case qc4=>omega
  case qc5=>omega
  case qc6=>simp
  intro v' w1 hown hgrow EK
  go_wp2
  go_ret
  exact⟨_,μ,loc,rfl,yD hq oS (((fZ _ w).alloc (aJ _) _).grown hgrow ah (by intro k hk;simp[Value.ownBlock] at hk;omega)) (by simpa using hown) wD⟩
def Ru {μ:Mu} {loc:Nat->Value} {w:World} {xs:List (List AV)} {u:Value} {q:Qp} (hq:q.p->False) (oS:Bf μ w) (hu:rep μ (.c4 2 xs) u) (hbig:xs.length *32<=140737488355328):
  Calls P 74 #[u] w λe w'=>∃v μ' loc',e= .returned v/\dY q μ loc [] (.jy [.jy [.self 52, .c4 2 xs]]) [] w v μ' loc' w':=by
 rw[rep.eq_def] at hu;dsimp only at hu;obtain⟨A,c,rfl,hc1,QS,hA⟩:=hu;have qn:∀(w:World) (a:Option Addr) (n c n' c':Nat),(binOp .eql 22 (.slice a n c) (.slice none n' c')).run P w= .ok (.bool a.isNone) w:=λw a n c n' c'=>Lib.run_eql_slice_nil w _ _ a n c n' c' Tryz.underlying22
 cases A with
 |none=>
  have h0:xs=[]:=by
   rcases hA with h|⟨b,off,e,_⟩
   .simpa using h
   .cases e
  subst h0
  go_enter Tryz.func74,Tryz.ntmps74
  go_wp2
  go_ret
  exact⟨_,μ,loc,rfl,yD hq oS (fZ _ _) (vs:=[]) ⟨rfl, .inl ⟨rfl,rfl⟩⟩ rfl⟩
 |some a=>
  obtain⟨us,wD,h1,hcell⟩:=GR oS hA;have DF:=bV wD;obtain⟨i0,hi,OV,Ww,Wx⟩:=info_parts (show(P.info? 52).map (λi=>(i.zero,i.size,i.bytes))=some (some (.agg #[.int .i64 0, .slice none 0 0]),2,32) by kernel_rfl);have u22:∀w,Sem.run P (underlying 22) w= .ok (TypeDesc.slice 52) w:=aU Tryz.underlying22
  go_enter Tryz.func74,Tryz.ntmps74
  go_wp2_with (at_builtin;refine wpList_append_own _ rfl _ _ 22 rfl w.heap.size 52 i0 (.agg #[.int .i64 0, .slice none 0 0]) 2 32 Tryz.underlying22 hi OV Ww Wx rfl (by decide) _ _ _ rfl (World.ownsRow_made w #[] 0 (aJ _) (cB _) rfl) a xs.length c us rfl ?qc1 ?qc2 h1 ?qc4 ?qc5 ?qc6 ?_)
  case qc1=>exact DF
  case qc2=>exact λj u hj=>Lib.cell?_alloc_some _ (hcell j u hj)
  case qc4=>omega
  case qc5=>omega
  case qc6=>simp
  intro v' w1 hown hgrow EK
  go_wp2
  go_ret
  exact⟨_,μ,loc,rfl,yD hq oS (((fZ _ w).alloc (aJ _) _).grown hgrow ah (by intro k hk;simp[Value.ownBlock] at hk;omega)) (by simpa using hown) wD⟩
end Go.Proofs.YthppjmoncapdfaaGreatDoor.cl
set_option maxRecDepth 100000
set_option maxHeartbeats 2000000
namespace Go.Proofs.YthppjmoncapdfaaGreatDoor.cl
open Go Go.AM Go.RowKit
attribute [local go_sem] tF
abbrev C2:Type:={ l:List Value // l.length=2/\∀u∈l,u.oneCell'=true }
def flat (l:List C2):List Value:=(l.map (·.1)).flatten
def Oa:∀{l:List C2} {k:Nat} {x:C2} {j:Nat} {u:Value},l[k]? =some x->x.1[j]? =some u->(flat l)[k *2+j]? =some u:=by intro l;induction l with
 |nil=>intro k x j u h;simp at h
 |cons y l z=>intro k x j u h q;have w:=y.2.1;simp only[flat,aK,nu];cases k with
  |zero=>simp only[List.getElem?_cons_zero,aB] at h;subst h;have:=(bp.1 q).1;rw[c7 af];simpa using q
  |succ k=>rw[fc af,w,show(k+1) *2+j-2=k *2+j by omega];exact z (by simpa using h) q
def K1 (x:C2):∃a b,x.1=[a,b]/\a.oneCell'=true/\b.oneCell'=true:=by obtain⟨q,h,l⟩:=x;match q,h with
 |[a,b],_=>exact⟨a,b,rfl,l a ah,l b ah⟩
def vV {w:World} {c:Array Value} {t i:Nat} {v:Value} (B:i<c.size) (D:v.oneCell'=true):
  Sem.run P (store ⟨w.heap.size,i,none⟩ v) (w.alloc (.cells c t))= .ok () (w.alloc (.cells (c.setIfInBounds i v) t)):=by
 have l:=World.alloc_heap_new w (.cells c t);have q:(w.alloc (.cells c t)).cell? ⟨w.heap.size,i,none⟩=some c[i]:=by simp only[World.cell?,l];simp[B]
 have z:(w.alloc (.cells c t)).frozen? ⟨w.heap.size,i,none⟩=false:=by simp only[World.frozen?,l];simp
 rw[run_store _ _ _ _ _ D,q];simp[z,World.setCell_alloc_new]
def Si {w:World} {l q:Value} {t:TypeId}:∀(j:Nat) (u:Value),[l,q][j]? =some u->(w.alloc (.cells #[l,q] t)).cell? ((⟨w.heap.size,0,none⟩:Addr).add j)=some u:=by intro j u z;rw[Addr.add_lit];have:=World.alloc_heap_new w (.cells #[l,q] t);simp only[World.cell?,this];simpa using z
def Np {n:Nat} (hn:1<=n) {Bs os n₀:Nat} {a:Option Addr} {cap:Nat} {xs:List C2} {w:World} (hcap:xs.length<4611686018427387904) (hB:Bs<n₀) (hn₀:n₀<=w.heap.size)
  (Vg:w.cell? ⟨Bs,os,none⟩=some (.slice a xs.length cap)) (hc:xs=[]\/∃b off,a=some ⟨b,off,none⟩/\b<n₀/\∀j u,(flat xs)[j]? =some u->w.cell? ⟨b,off+j,none⟩=some u):
  SeqStopsK Fence.wide n P 214 #[.pointer (some ⟨Bs,os,none⟩)] (λx:C2=> #[.agg x.1.toArray]) (Below n₀) (λys=>ys=xs) (λ_=>True) xs.length w:=λl J Jx W hW hJ _ hY h0=>by
 have hw:Below n₀ w W:=hW.mono hn₀;replace Vg:=(hw.cell (p:=⟨Bs,os,none⟩) hB).trans Vg;replace hc:xs=[]\/∃b off,a=some ⟨b,off,none⟩/\b<n₀/\∀j u,(flat xs)[j]? =some u->W.cell? ⟨b,off+j,none⟩=some u:=hc.imp id λ⟨b,off,e,hb,h⟩=>⟨b,off,e,hb,λj u hj=>(hw.cell (p:=⟨b,off+j,none⟩) hb).trans (h j u hj)⟩
 replace hn₀:=cV hn₀ hW.size;refine qd Tryz.func214 rfl trivial ?_ rfl;simp only[Tryz.ntmps214,jT,aT,cL,Nat.reduceAdd,Nat.reduceSub,lg,lq,lu,lz,er,eM]
 gi_wp2
 gi_loopw [7] (λi wr=>∃k:Nat,k<=xs.length/\i= .int .i64 k/\J (xs.take k) wr/\Below n₀ W wr)
  (λi _=>xs.length-(intOf i).toNat)
 case atStart=>exact⟨0,cB _,rfl,by simpa using h0,fZ _ _⟩
 case round=>
  obtain⟨k,hk,rfl,hJs,hnx⟩:=hrel;by_cases hlt:k<xs.length
  .obtain⟨u0,u1,hx,o0,o1⟩:=K1 xs[k];obtain⟨b,off,rfl,hb,V7⟩:∃b off,a=some ⟨b,off,none⟩/\b<n₀/\∀j u,(flat xs)[j]? =some u->W.cell? ⟨b,off+j,none⟩=some u:=by
    rcases hc with h|h
    .subst h;simp at hlt
    .exact h
   have hg:=aW hlt;have hc0:wr.cell? ⟨b,off+k *2,none⟩=some u0:=(hnx.cell (p:=⟨b,off+k *2,none⟩) hb).trans (V7 _ _ (Oa (j:=0) hg (by rw[hx];rfl)));have hc1:wr.cell? ⟨b,off+k *2+1,none⟩=some u1:=(hnx.cell (p:=⟨b,off+k *2+1,none⟩) hb).trans (V7 _ _ (Oa (j:=1) hg (by rw[hx];rfl)));have hs0:=vV (w:=wr) (c:= #[.int .i64 0, .int .i64 0]) (t:=54) (i:=0) (by decide) o0;have hs1:=vV (w:=wr) (c:= #[u0, .int .i64 0]) (t:=54) (i:=1) ah o1;have hs0':Sem.run P (store ⟨wr.heap.size,0,none⟩ u0) (wr.alloc (.cells #[.int .i64 0, .int .i64 0] 54))= .ok () (wr.alloc (.cells #[u0, .int .i64 0] 54)):=hs0;have hs1':Sem.run P (store ⟨wr.heap.size,1,none⟩ u1) (wr.alloc (.cells #[u0, .int .i64 0] 54))= .ok () (wr.alloc (.cells #[u0,u1] 54)):=hs1;have hJ2:J (xs.take k) (wr.alloc (.cells #[u0,u1] 54)):=hJ _ wr _ none hJs (World.grownBy_alloc _ _ _) (λr e=>by cases e);obtain⟨fn,tmps,assign,body,hy,hR⟩:=hY _ xs[k] _ hJ2 aX;rw[hx] at hy
   gi_wp2
   refine hR.mono ?_;rintro e W3 (⟨rfl,hJ3,hk3⟩|⟨rfl,hJ3⟩)
   .gi_wp2
    go_roundw
    case rel=>exact⟨k+1,by omega,by simp,by rw[cS,hg];exact hJ3,(hnx.alloc (cV hn₀ hnx.size) _).trans hk3⟩
    case measure=>simp[intOf];omega
   .gi_wp2
    refine bodyPost_ret (results_none rfl _ _ _) rfl ?_;exact⟨⟨_,rfl⟩, .inr ⟨_,trivial,hJ3⟩⟩
  .obtain rfl:k=xs.length:=by omega
   gi_wp2
   go_end0
   exact⟨⟨_,rfl⟩, .inl ⟨_,rfl,by simpa using hJs⟩⟩
def Coll (l:World) (q:Nat) (pre:List C2) (W:World):Prop:=
 (∃v,Boxed W q 50 v/\W.ownsRow l.heap.size 54 2 v pre.length (flat pre)/\True)/\Below l.heap.size l W
def GZ (l:World) (q B:Nat) (w:l.heap.size<=B):OwnFrom B (Coll l q):=
 OwnFrom.and (Own.from (holdsRow_own l.heap.size q 50 54 2 (λs:List C2=>s.length) flat (λ_ _=>True)) _) (ownFrom_below (aJ _) w)
def Elt (l b:Value) (x:C2) (w:Act) (W:World):Prop:=
 ∃q,W.heap[q]? =some (.cells x.1.toArray 54 (0,0))/\w={ tmps:= #[.slice none 0 0,l,b,undef, .slice none 0 0, .pointer (some ⟨q,0,none⟩),l, .agg x.1.toArray,undef,undef,undef,undef,undef],defers:=[] }
def Rz (z b:Value) (B:Nat) (x:C2) (w:Act):OwnFrom B (λ(_:Unit) W=>Elt z b x w W):=λs A C row H F G=>by obtain⟨q,h,e⟩:=H;refine⟨q,(F.block q (cO.1 h).1 λe=> ?_).trans h,e⟩;obtain⟨_,o,l,D⟩:=G q e.symm;rw[h] at l;cases l;cases D
def Mk {n:Nat} (hn:3<=n) {Bs os:Nat} {a:Option Addr} {cap:Nat} {xs:List C2} {w:World} (hlen:xs.length *16<=140737488355328) (hB:Bs<w.heap.size)
  (Vg:w.cell? ⟨Bs,os,none⟩=some (.slice a xs.length cap)) (hc:xs=[]\/∃b off,a=some ⟨b,off,none⟩/\b<w.heap.size/\∀j u,(flat xs)[j]? =some u->w.cell? ⟨b,off+j,none⟩=some u):
  CallsIn Fence.wide n P 254 #[.slice none 0 0, .func (.func 214) #[] #[.pointer (some ⟨Bs,os,none⟩)]] w λe w'=>∃v,e= .returned v/\w'.ownsRow w.heap.size 54 2 v xs.length (flat xs)/\Below w.heap.size w w':=by
 have h1:1<=n:=af;refine callsIn_of_wp_marks Tryz.func254 rfl trivial ?_ rfl;simp only[Tryz.ntmps254,jT,aT,cL,Nat.reduceAdd,Nat.reduceSub,lg,lq,lu,lz,er,eM]
 gi_wp2
 have ML:Below w.heap.size w (w.alloc (.cells #[.slice none 0 0] 50)):=(fZ _ w).alloc (aJ _) _;obtain⟨i0,hi,OV,Ww,Wx⟩:=info_parts (show(P.info? 54).map (λi=>(i.zero,i.size,i.bytes))=some (some (.agg #[.int .i64 0, .int .i64 0]),2,16) by kernel_rfl);refine wpIn_rangeFunc_ownH rfl h1 (gf:=214) (lb:= #[.pointer (some ⟨Bs,os,none⟩)]) rfl trivial (enters_of Tryz.func214 (by kernel_rfl) rfl)
  (Np (n:=n-1) af (w:=w.alloc (.cells #[.slice none 0 0] 50)) (a:=a) (cap:=cap) (xs:=xs) (n₀:=w.heap.size) af hB ah ((ML.cell (p:=⟨Bs,os,none⟩) hB).trans Vg) (hc.imp id λ⟨b,off,e,hb,h⟩=>⟨b,off,e,hb,λj u hj=>(ML.cell (p:=⟨b,off+j,none⟩) hb).trans (h j u hj)⟩))
  belowK_t (belowK_b ah) (fZ _ _) (λ_=>rfl)
  (Coll w w.heap.size) (λ_ _ _=>False) (GZ _ _ _ ah) (λ_ _ _ _ _ hs _ _=>hs)
  ⟨⟨_,Boxed.new _ _ _,⟨rfl, .inl ⟨rfl,rfl⟩⟩,trivial⟩,ML⟩
  (Elt (.func (.func 214) #[] #[.pointer (some ⟨Bs,os,none⟩)]) (.pointer (some ⟨w.heap.size,0,none⟩))) (Rz _ _ _) ?assign ?body ?done ?stop
 case assign=>
  intro l pre x W K hI hK;obtain⟨u0,u1,hx,o0,o1⟩:=K1 x;have hs0:=vV (w:=W) (c:= #[.int .i64 0, .int .i64 0]) (t:=54) (i:=0) (by decide) o0;have hs1:=vV (w:=W) (c:= #[u0, .int .i64 0]) (t:=54) (i:=1) ah o1;have hs0':Sem.run P (store ⟨W.heap.size,0,none⟩ u0) (W.alloc (.cells #[.int .i64 0, .int .i64 0] 54))= .ok () (W.alloc (.cells #[u0, .int .i64 0] 54)):=hs0;have hs1':Sem.run P (store ⟨W.heap.size,1,none⟩ u1) (W.alloc (.cells #[u0, .int .i64 0] 54))= .ok () (W.alloc (.cells #[u0,u1] 54)):=hs1;rw[hx]
  gi_wp2
  refine hK _ _ ((KeepsOthers.alloc _ _).from _) ((fZ _ _).alloc hI.2.size _) (GZ _ _ _ hI.2.size _ W _ none hI (World.grownBy_alloc _ _ _) (λr e=>by cases e)) ⟨W.heap.size,by rw[hx];exact World.alloc_heap_new _ _,by rw[hx]⟩
 case body=>
  rintro l pre x a' W hl _ ⟨⟨v,hv,hrow,_⟩,hB⟩ ⟨q,hq,rfl⟩ hlen;obtain⟨u0,u1,hx,o0,o1⟩:=K1 x;rw[hx] at hq⊢;have c0:=hv.cell;have cq0:W.cell? ⟨q,0,none⟩=some u0:=by simp[World.cell?,hq]
  have cq1:W.cell? ⟨q,1,none⟩=some u1:=by simp[World.cell?,hq]
  have LA:pre.length+1<=xs.length:=hlen
  gi_wp2_with (first
   |(gi_at_builtin;refine wpListIn_append_own _ rfl _ _ 50 rfl w.heap.size 54 i0 (.agg #[.int .i64 0, .int .i64 0]) 2 16 Tryz.underlying50 hi OV Ww Wx rfl (by decide) _ _ _ rfl (hrow.alloc _) ⟨W.heap.size,0,none⟩ 1 1 [u0,u1] rfl rfl Si (by simp[o0,o1]) (by unfold maxLen;omega) af (by have:=hB.size;simp;omega) ?_;intro v' w3 hown' hg3 hnil3
     obtain⟨g,cap',rfl⟩:=ownsRow_succ hown';obtain⟨b1,b2,b3,b4,b5⟩:=Boxed.appended hv (by decide) hrow hB.size (aJ _) hown' hg3;have c3:=b1.cell
     have f3:=b1.frozen)
   |gi_in)
  exact⟨b4.from _,b5,⟨_,b2,by simpa[flat,hx] using b3,trivial⟩,hB.trans b5⟩
 case done=>
  rintro D ys W hD rfl ⟨⟨v,h1,h2,_⟩,h3⟩ hK;have c0:=h1.cell
  gi_wp2
  refine⟨ah, .inl ⟨_,_,rfl,run_takeDeferred hK,?_⟩⟩;exact⟨_,results_tmp rfl _ _ _,_,rfl,ownsRow_putObj h2 _ hK rfl,h3.trans (belowK_b (w:=w) (aJ _) W D _ _ (by simp at hD;omega) hK rfl rfl)⟩
 case stop=>rintro D c pre W _ _ h _;exact h.elim
def JC {n:Nat} (hn:4<=n) {Bs os:Nat} {a:Option Addr} {cap:Nat} {xs:List C2} {w:World} (hlen:xs.length *16<=140737488355328) (hB:Bs<w.heap.size)
  (Vg:w.cell? ⟨Bs,os,none⟩=some (.slice a xs.length cap)) (hc:xs=[]\/∃b off,a=some ⟨b,off,none⟩/\b<w.heap.size/\∀j u,(flat xs)[j]? =some u->w.cell? ⟨b,off+j,none⟩=some u):
  CallsIn Fence.wide n P 212 #[.func (.func 214) #[] #[.pointer (some ⟨Bs,os,none⟩)]] w λe w'=>∃v,e= .returned v/\w'.ownsRow w.heap.size 54 2 v xs.length (flat xs)/\Below w.heap.size w w':=by
 have h1:1<=n:=af;have hf:Fence.wide.fn 254:=trivial;refine qd Tryz.func212 rfl trivial ?_ rfl;simp only[Tryz.ntmps212,jT,aT,cL,Nat.reduceAdd,Nat.reduceSub,lg,lq,lu,lz,er,eM]
 gi_wp2_with (gi_at_call 254;refine(Mk (n:=n-1) af hlen hB Vg hc).mono ?_;rintro e w' ⟨v,rfl,hrow,hb⟩)
 go_ret
 exact⟨v,rfl,hrow,hb⟩
end Go.Proofs.YthppjmoncapdfaaGreatDoor.cl
set_option maxRecDepth 100000
set_option maxHeartbeats 2000000
namespace Go.Proofs.YthppjmoncapdfaaGreatDoor.cl
open Go Go.AM Go.RowKit
attribute [local go_sem] tF
def Al.c2 {S:SK} {l:Mu} (x:Al S l):C2:=⟨x.cells,x.len,x.one⟩
def Lr {S:SK} {q:Mu} (l:List (Al S q)):flat (l.map Al.c2)=(l.map Al.cells).flatten:=by simp[flat,Al.c2,jQ]
def Nh {μ:Mu} {loc:Nat->Value} {w:World} {xs:List (List AV)} {l:List (Int×Int)} {u:Value} (oS:Bf μ w) (hl:rL xs=some l) (hap:Bl l=true) (hlen:l.length<=1073741824) (hu:rep μ (.fn 214 [.ref [.c4 2 xs]]) u):
  Calls P 165 #[u, .func (.func 167) #[] #[]] w λe w'=>∃v μ' loc',e= .returned v/\dY False μ loc [] (.jy [.jy [.self 54, .c4 2 ((jB S9 l).map He)]]) [] w v μ' loc' w':=by
 have hxs:=y9 hl;subst hxs;rw[rep.eq_def] at hu;dsimp only at hu;obtain⟨vs,rfl,p,vs',rfl,hp,OU⟩:=hu
 have:vs'=[]:=OU
 subst this;rw[rep.eq_def] at hp;dsimp only at hp;obtain⟨b,off,cs,rfl,⟨sl,cs',rfl,z1,hcs'⟩,h1c,hc⟩:=hp
 have:cs'=[]:=hcs'
 subst this;have Uw:=hc 0 sl rfl;rw[oK] at Uw;rw[rep.eq_def] at z1;dsimp only at z1;obtain⟨A,c,rfl,hc1,QS,hA⟩:=z1;have hcell:=oW (oS _ _ _ Uw) rfl;have hlt:=jx (oS _ _ _ Uw);obtain⟨Nu,ha1,V7⟩:∃Nu:List (Al Vd μ),Nu.map (λx=>x.1.1)=l/\(Nu.map Al.c2=[]\/∃b off,A=some ⟨b,off,none⟩/\b<w.heap.size/\∀j u,(flat (Nu.map Al.c2))[j]? =some u->w.cell? ⟨b,off+j,none⟩=some u):=by
  rcases hA with h0|⟨b',off',ea,hrow⟩
  .have:l=[]:=by simpa using h0
   subst this;exact⟨[],rfl, .inl rfl⟩
  .obtain⟨us,k1,k2⟩:=pH hrow;have k3:=jq k1;obtain⟨Nu,e1,e2⟩:=NU (S:=Vd) (l:=l) (λp _=>trivial) k1;refine⟨Nu,e1,?_⟩;cases hl0:Nu with
   |nil=>exact .inl rfl
   |cons x0 als0=>
    rw[<-hl0];refine .inr ⟨b',off',ea,?_,λj u hj=> ?_⟩
    .have hx:=x0.len;obtain⟨u0,OS⟩:∃u0,us[0]? =some u0:=by
      rw[e2,hl0];cases hx':x0.cells with
      |nil=>rw[hx'] at hx;simp at hx
      |cons a t=>exact⟨a,by simp[hx']⟩
     exact jx (oS _ _ _ (k2 0 u0 OS))
    .rw[Lr,<-e2] at hj;exact oW (oS _ _ _ (k2 j u hj)) (k3 u (aS hj))
 have hal:(Nu.map Al.c2).length=l.length:=by rw[<-ha1];simp
 have SX:(l.map He).length=(Nu.map Al.c2).length:=by rw[hal];simp
 rw[SX] at hcell;refine(kV (n:=9)).1 ?_;have hf1:Fence.wide.fn 212:=trivial;have hf2:Fence.wide.fn 213:=trivial;have hn:1<=9:=by decide
 refine qd Tryz.func165 rfl trivial ?_ rfl;simp only[Tryz.ntmps165,jT,aT,cL,Nat.reduceAdd,Nat.reduceSub,lg,lq,lu,lz,er,eM]
 gi_wp2_with (gi_at_call 212;refine(JC (n:=8) af (xs:=Nu.map Al.c2) af hlt hcell V7).mono ?_;rintro e w1 ⟨v,rfl,hrow,hb⟩)
 have HD:Bf μ w1:=λb j x hx=>by have h:=oS b j x hx;rw[dW (hb.block b (jx h)) j];exact h
 have hbase:∀g,gE v g->w.heap.size<=g:=λg hg=>by
  rcases hrow.2 with⟨e,_⟩|⟨g',cap,cur,e,h2,_⟩
  .rw[e] at hg;rcases hg with hg|⟨us,hg,_⟩<;>cases hg
  .rw[e] at hg;rcases hg with hg|⟨us,hg,_⟩
   .cases hg;exact h2
   .cases hg
 have uq:∀g,gE v g->∀j,μ g j=none:=λg hg j=>by cases hm:μ g j with
  |none=>rfl
  |some x=>have:=jx (oS _ _ _ hm);have:=hbase g hg;omega
 have hrc:bS μ 2 (l.map He) (flat (Nu.map Al.c2)):=by rw[Lr,<-ha1,dw];exact Qj Nu
 have qq:jC w1.heap.size (gJ False (λ_=>v) [10000]) μ (λ_=>v) w1 10000 (.row 54 2 (l.map He)):=by
  refine⟨_,?_,hrc,λg hg=>⟨.inr ⟨v,by simp[gJ],hg⟩,uq g hg⟩⟩;rw[SX];refine⟨hrow.1,?_⟩;rcases hrow.2 with h|⟨g,cap,cur,h1,_,h2⟩
  .exact .inl h
  .exact .inr ⟨g,cap,cur,h1,cB _,h2⟩
 have hs:=Qy (S:=Vd) (l:=l) Tryz.RS Tryz.isAgg54 Tryz.sizeOf54 hlen (by rw[NM];exact Mi hap) (λp _=>trivial) HD qq;rw[NM] at hs;refine((kV (n:=8)).2 hs).mono ?_;rintro e w2 ⟨v2,μ2,WB,rfl,hP⟩
 gi_wp2
 go_ret
 have Db:=hP.fix 10000 ah (by decide);obtain⟨vs2,DC,MQ,V5⟩:=hP.obs 10000 _ rfl;rw[Db] at DC V5;have hin:∀g,aP v=some g->gE v g:=λg hg=> .inl hg
 have hk:∀b,b<w.heap.size->w2.heap[b]? =w.heap[b]? :=λb hlt=>
  (hP.keep b (dH hlt hb.size) (by
   rintro⟨id,v',h1,h2⟩
   have:v'=v:=by
    simp only[gJ] at h1;split at h1
    .exact(eO h1).symm
    .cases h1
   rw[this] at h2
   have:=hbase b h2;omega)).trans (hb.block b hlt)
 refine⟨_,μ2,loc,rfl,?_⟩
 exact {
  ext:=⟨hP.ext.1,λb j x hx=>(hP.ext.2 b j x hx).imp id λh=>cV hb.size h⟩
  qk:=hP.qk
  res:= .inr (.inr ⟨54,2,_,vs2,rfl,DC,MQ,λg hg=>⟨hbase g (hin g hg),(V5 g (hin g hg)).2,λid o h=>by cases h⟩⟩)
  obs:=λid o h=>by cases h
  apart:=λi j oi oj h=>by cases h
  keep:=λb hlt _=>hk b hlt
  fix:=λid h=>by cases h
  os:=hP.os.trans hb.os
  tape:=hP.tape.trans hb.tape
  output:=hP.output.trans hb.output
  grown:=cV hb.size hP.grown
  drawn:=λh=>h.elim }
def M3 {q:Qp} {B:Mu}:dX q B P (λ_ _ _=>none):=by intro g args w r l z;cases z
noncomputable def O4 (m:Nat):Option (AV×List (Nat×Ob)):=kH P cq.Hq (λ_ _ _=>none) 6 83 [.pv (.int .i64 (.ofNat m))] []
def O5:((List.range 100).all λm=>match O4 m with
  |some (.str s,[])=>decide (s=G1 m)
  |_=>false)=true:=by kernel_rfl
def O6 {m:Nat} (h:m<100):O4 m=some (.str (G1 m),[]):=by
 have:=cH.1 O5 m (by simpa using h);revert this;generalize O4 m=r;intro this;split at this
 .rw[j4 this]
 .cases this
def RN:dX False (λ_ _=>none) P (kH P cq.Hq (λ_ _ _=>none) 6):=
 zV ok (λf fn c _ _=>jO.none (JW f) c) M3 6
end Go.Proofs.YthppjmoncapdfaaGreatDoor.cl
set_option maxRecDepth 100000
namespace Go.Proofs.YthppjmoncapdfaaGreatDoor.cl.cy
open Go Go.AM
def dm:cr:=λf args l=>match f,args,l with
 |57,[.pv (.c4 1 xs)],[]=>bif Nat.ble (xs.length *8) 140737488355328 then some (.jy [.jy [.self 3, .c4 1 xs]],[]) else none
 |2000000,[.pv (.int .i64 n), .pv (.c4 1 p), .row 10000],[(10000, .lp out)]=>match n with
  | .ofNat m=>bif Nat.blt m out.length then some (.bool true,[(10000, .lp (out.set m (.c4 1 p)))]) else none
  | .negSucc _=>none
 |_,_,_=>none
noncomputable abbrev Rn:cr:=run P cq.Hq dm
def Q0:Unit->AV:=(λ(_:Unit)=>AV.jy [])
instance:e7 Q0:=⟨λa b h=>rfl⟩
def Q1:Bool->AV:=(λ(x:Bool)=>((.bool x):AV))
instance:e7 Q1:=⟨λa b h=>by
 simp only[Q1,AV.mp.injEq,AV.int.injEq,AV.str.injEq,AV.bool.injEq,AV.c4.injEq,AV.agg.injEq,AV.jy.injEq,cU,fD,dL] at h
 exact h⟩
def Q2:(List Int)->AV:=(λ(x:List Int)=>(AV.jy [AV.jy [AV.self 3,AV.c4 1 (List.map (bU .i64) x)]]:AV))
instance:e7 Q2:=⟨λa b h=>by
 simp only[Q2,AV.mp.injEq,AV.int.injEq,AV.str.injEq,AV.bool.injEq,AV.c4.injEq,AV.agg.injEq,AV.jy.injEq,cU,fD,dL] at h
 exact map_inj e7.inj _ _ h⟩
abbrev R460.T:Type:=List Int
abbrev R492.T:Type:=Unit
def Qw:List (Nat×n9):=[(57,⟨_,Q2⟩),(82,⟨_,Q0⟩),(2000000,⟨_,Q1⟩)]
def lH:jF:={ elem:=wB elems,val:=wB vals,res:=wB Qw }
noncomputable def f460 (l:List Int):Option (List Int):=dec (EN Q2) (Rn 57 [(.pv (.c4 1 (List.map (bU .i64) l)))] [])
abbrev uF.T:Type:=Unit×(List AV)
def uF:uF.T->Out:=(λx:Unit×(List AV)=>((Q0 x.1,[(10000, .lp x.2)]):Out))
instance:e7 uF:=⟨λa b h=>by
 obtain⟨l,B⟩:=a;obtain⟨q,D⟩:=b;simp only[uF,aQ,cU,Ob.row.injEq,Ob.mp.injEq,Ob.lp.injEq,Ob.box.injEq,dL,fD] at h;have w:l=q:=rfl;have z:=h
 rw[w,z]⟩
noncomputable def f492 (q:FSt) (l:List AV):Option (Unit×(List AV)):=dec uF (Rn 82 [(.cl 2000000 [.r 10000]),(.pv (.ref (FSt.enc q)))] [(10000,(.lp l))])
noncomputable def zD (D:FSt) (B:Int) (q:List Bool) (w:List Int) (z:List (List Int)) (l:List AV):Option (Unit×(List AV)):=dec uF (mM P lH cq.Hq dm 82 4 [10000] [(0,(.cl 2000000 [.r 10000])),(1,(.pv (.ref (FSt.enc D)))),(3,(.row 12)),(4,(.row 15)),(5,(.row 16)),(6,(.pv (.int .i64 B)))] [(12,(.row 4 1 (List.map mL q))),(15,(.row 3 1 (List.map (bU .i64) w))),(16,(.row 60 1 (List.map (gI 1 (bU .i64)) z))),(10000,(.lp l))])
noncomputable def xD (H:FSt) (G:Int) (B:List bD) (D F:Int) (q:List Bool) (w:List Int) (z:List (List Int)) (l:List AV):Option (Unit×(List AV)):=dec uF (mM P lH cq.Hq dm 82 8 [10000] [(0,(.cl 2000000 [.r 10000])),(1,(.pv (.ref (FSt.enc H)))),(3,(.row 12)),(4,(.row 15)),(5,(.row 16)),(6,(.pv (.int .i64 G))),(42,(.pv (.c4 2 (List.map bD.enc B)))),(43,(.pv (.int .i64 D))),(44,(.pv (.int .i64 F)))] [(12,(.row 4 1 (List.map mL q))),(15,(.row 3 1 (List.map (bU .i64) w))),(16,(.row 60 1 (List.map (gI 1 (bU .i64)) z))),(10000,(.lp l))])
abbrev Dr.T:Type:=Bool×(List AV)
def Dr:Dr.T->Out:=(λx:Bool×(List AV)=>((Q1 x.1,[(10000, .lp x.2)]):Out))
instance:e7 Dr:=⟨λa b h=>by
 obtain⟨w,z⟩:=a;obtain⟨B,D⟩:=b;simp only[Dr,aQ,cU,Ob.row.injEq,Ob.mp.injEq,Ob.lp.injEq,Ob.box.injEq,dL,fD] at h;obtain⟨l,q⟩:=h
 rw[e7.inj _ _ l,q]⟩
noncomputable def f493 (q:Int) (w:List Int) (l:List AV):Option (Bool×(List AV)):=dec Dr (Rn 2000000 [(.pv (.int .i64 q)),(.pv (.c4 1 (List.map (bU .i64) w))),(.row 10000)] [(10000,(.lp l))])
def e492 (q:FSt) (l:List AV) {r:(Unit×(List AV))}
 (h:(
 check (0<=((length q.au:Int):Int)/\((length q.au:Int):Int)<=(length q.au:Int)/\1 *toNat (length q.au:Int)<=281474976710656/\((length q.au:Int):Int)<=9223372036854775807) (
 check (0<=(0:Int)/\toNat 0<length (replicate (toNat (length q.au:Int)) false)) (
 fm (replicate (toNat (length q.au:Int)) false) (toNat 0) λw=>
 zD q 0 ((replicate (toNat (length q.au:Int)) false).set (toNat 0) true) [0] ([([]:List Int)]:List (List Int)) l)):Option (Unit×(List AV)))=some r):
 f492 q l=some r:=
 mN (E:=uF) h (
 fk (p:=0<=((length (List.map Node.enc q.au):Int):Int)/\((length (List.map Node.enc q.au):Int):Int)<=(length (List.map Node.enc q.au):Int)/\1 *toNat (length (List.map Node.enc q.au):Int)<=281474976710656/\((length (List.map Node.enc q.au):Int):Int)<=9223372036854775807) (by simp only[aR];exact id) (
 fk (p:=0<=(0:Int)/\toNat 0<length (replicate (toNat (length (List.map Node.enc q.au):Int)) (mL false))) (by simp only[aR,p5,kZ];exact id) (
 I9 (enc:=mL) (L:=(replicate (toNat (length (List.map Node.enc q.au):Int)) (mL false))) (by simp only[aR,p5,kZ]) λw=>
 (show kE _ (mM P lH cq.Hq dm 82 4 [10000] [(0,(.cl 2000000 [.r 10000])),(1,(.pv (.ref (FSt.enc q)))),(3,(.row 12)),(4,(.row 15)),(5,(.row 16)),(6,(.pv (.int .i64 0)))] [(12,(.row 4 1 ((replicate (toNat (length (List.map Node.enc q.au):Int)) (mL false)).set (toNat 0) (mL true)))),(15,(.row 3 1 (List.map (bU .i64) [0]))),(16,(.row 60 1 (List.map (gI 1 (bU .i64)) [([]:List Int)]))),(10000,(.lp l))]) ( zD q 0 ((replicate (toNat (length q.au:Int)) false).set (toNat 0) true) [0] ([([]:List Int)]:List (List Int)) l) from λ_ h=>by simpa only[aR,gq,gr,p5,kZ] using jD _ _ _ h))))
 (by kernel_rfl) (λh=>kq (C:=lH) rfl h)
def UA (O:FSt) (z:Int) (H:List Bool) (q:List Int) (D:List (List Int)) (B:List AV) {r:(Unit×(List AV))}
 (h:(
 bif(decide (z<(length q:Int))) then(
 check (0<=z/\toNat z<length q) (
 fm q (toNat z) λL=>
 check (0<=z/\toNat z<length D) (
 fm D (toNat z) λN=>
 GB (f493 L N B) λF w=>
 bif(!F) then(
 some ((),w))
 else(
 check (0<=z/\toNat z<length q) (
 fm q (toNat z) λG=>
 bF O.au G λl=>
 xD O z l.cG (length l.cG:Int) 0 H q D w)))))
 else(
 some ((),B)):Option (Unit×(List AV)))=some r):
 zD O z H q D B=some r:=
 mN (E:=uF) h (
 Be (c:=(decide (z<(length (List.map (bU .i64) q):Int)))) (by simp only[aR]) (
 fk (p:=0<=z/\toNat z<length (List.map (bU .i64) q)) (by simp only[aR];exact id) (
 In (bU .i64) λL=>
 fk (p:=0<=z/\toNat z<length (List.map (gI 1 (bU .i64)) D)) (by simp only[aR];exact id) (
 In (gI 1 (bU .i64)) λN=>
 NJ (kk:=λU S=>kJ 10000 S λI K=>N0 I λw=>E4 K<|oO Q1 U λF=>
 bif(!F) then(
 some ((.jy []),[(10000,(.lp w))]))
 else(
 check (0<=z/\toNat z<length (List.map (bU .i64) q)) (
 fm (List.map (bU .i64) q) (toNat z) λQ=>oO (bU .i64) Q λG=>
 bF (List.map Node.enc O.au) G λR=>oO Node.enc R λl=>
 mM P lH cq.Hq dm 82 8 [10000] [(0,(.cl 2000000 [.r 10000])),(1,(.pv (.ref (FSt.enc O)))),(3,(.row 12)),(4,(.row 15)),(5,(.row 16)),(6,(.pv (.int .i64 z))),(42,(.pv (.c4 2 (List.map bD.enc l.cG)))),(43,(.pv (.int .i64 (length (List.map bD.enc l.cG):Int)))),(44,(.pv (.int .i64 0)))] [(12,(.row 4 1 (List.map mL H))),(15,(.row 3 1 (List.map (bU .i64) q))),(16,(.row 60 1 (List.map (gI 1 (bU .i64)) D))),(10000,(.lp w))]))) Iz λF w=>NL (Tr (xs:=w) (Vy (VA (enc:=Q1) (y:=F) (
 Ic (
 Eb rfl) (
 fk (p:=0<=z/\toNat z<length (List.map (bU .i64) q)) (by simp only[aR];exact id) (
 In (bU .i64) λG=>
 Ig Node.enc λl=>
 (show kE _ (mM P lH cq.Hq dm 82 8 [10000] [(0,(.cl 2000000 [.r 10000])),(1,(.pv (.ref (FSt.enc O)))),(3,(.row 12)),(4,(.row 15)),(5,(.row 16)),(6,(.pv (.int .i64 z))),(42,(.pv (.c4 2 (List.map bD.enc l.cG)))),(43,(.pv (.int .i64 (length (List.map bD.enc l.cG):Int)))),(44,(.pv (.int .i64 0)))] [(12,(.row 4 1 (List.map mL H))),(15,(.row 3 1 (List.map (bU .i64) q))),(16,(.row 60 1 (List.map (gI 1 (bU .i64)) D))),(10000,(.lp w))]) ( xD O z l.cG (length l.cG:Int) 0 H q D w) from λ_ h=>by simpa only[aR] using jD _ _ _ h)))))))))) (
 Is))
 (by kernel_rfl) (λh=>kO h)
def PO (N:FSt) (I:Int) (G:List bD) (H F:Int) (B:List Bool) (D:List Int) (z:List (List Int)) (w:List AV) {r:(Unit×(List AV))}
 (h:(
 bif(decide (F<H)) then(
 bF G F λl=>
 check (0<=l.To/\toNat l.To<length B) (
 fm B (toNat l.To) λK=>
 bif(!K) then(
 check (0<=l.To/\toNat l.To<length B) (
 fm B (toNat l.To) λO=>
 check ((length D+length [l.To]) *8<=140737488355328/\length D+length [l.To]<=4611686018427387904) (
 check (0<=I/\toNat I<length z) (
 fm z (toNat I) λL=>
 Option.bind (f460 L) λq=>
 check ((length q+length [l.aV]) *8<=140737488355328/\length q+length [l.aV]<=4611686018427387904) (
 check ((length z+length ([(q++[l.aV])]:List (List Int))) *24<=140737488355328/\length z+length ([(q++[l.aV])]:List (List Int))<=4611686018427387904) (
 xD N I G H (wrap .i64 (F+1)) (B.set (toNat l.To) true) (D++[l.To]) (z++([(q++[l.aV])]:List (List Int))) w))))))
 else(
 xD N I G H (wrap .i64 (F+1)) B D z w)))
 else(
 zD N (wrap .i64 (I+1)) B D z w):Option (Unit×(List AV)))=some r):
 xD N I G H F B D z w=some r:=
 mN (E:=uF) h (
 Ic (
 Ig bD.enc λl=>
 fk (p:=0<=l.To/\toNat l.To<length (List.map mL B)) (by simp only[aR];exact id) (
 In mL λK=>
 Ic (
 fk (p:=0<=l.To/\toNat l.To<length (List.map mL B)) (by simp only[aR];exact id) (
 In mL λO=>
 fk (p:=(length (List.map (bU .i64) D)+length (List.map (bU .i64) [l.To])) *8<=140737488355328/\length (List.map (bU .i64) D)+length (List.map (bU .i64) [l.To])<=4611686018427387904) (by simp only[aR];exact id) (
 fk (p:=0<=I/\toNat I<length (List.map (gI 1 (bU .i64)) z)) (by simp only[aR];exact id) (
 In (gI 1 (bU .i64)) λL=>
 Ik λq=>
 fk (p:=(length (List.map (bU .i64) q)+length (List.map (bU .i64) [l.aV])) *8<=140737488355328/\length (List.map (bU .i64) q)+length (List.map (bU .i64) [l.aV])<=4611686018427387904) (by simp only[aR];exact id) (
 fk (p:=(length (List.map (gI 1 (bU .i64)) z)+length ([[(.c4 1 ((List.map (bU .i64) q)++(List.map (bU .i64) [l.aV])))]]:List (List AV))) *24<=140737488355328/\length (List.map (gI 1 (bU .i64)) z)+length ([[(.c4 1 ((List.map (bU .i64) q)++(List.map (bU .i64) [l.aV])))]]:List (List AV))<=4611686018427387904) (by simp only[aR,bw,cC,aK,cW,aT,cL,gI];exact id) (
 (show kE _ (mM P lH cq.Hq dm 82 8 [10000] [(0,(.cl 2000000 [.r 10000])),(1,(.pv (.ref (FSt.enc N)))),(3,(.row 12)),(4,(.row 15)),(5,(.row 16)),(6,(.pv (.int .i64 I))),(42,(.pv (.c4 2 (List.map bD.enc G)))),(43,(.pv (.int .i64 H))),(44,(.pv (.int .i64 (wrap .i64 (F+1)))))] [(12,(.row 4 1 ((List.map mL B).set (toNat l.To) (mL true)))),(15,(.row 3 1 ((List.map (bU .i64) D)++(List.map (bU .i64) [l.To])))),(16,(.row 60 1 ((List.map (gI 1 (bU .i64)) z)++([[(.c4 1 ((List.map (bU .i64) q)++(List.map (bU .i64) [l.aV])))]]:List (List AV))))),(10000,(.lp w))]) ( xD N I G H (wrap .i64 (F+1)) (B.set (toNat l.To) true) (D++[l.To]) (z++([(q++[l.aV])]:List (List Int))) w) from λ_ h=>by simpa only[bw,gq,aK,cW,aT,cL,gI] using jD _ _ _ h))))))) (
 Iz))) (
 Iz))
 (by kernel_rfl) (λh=>kO h)
end Go.Proofs.YthppjmoncapdfaaGreatDoor.cl.cy
namespace Go.Proofs.YthppjmoncapdfaaGreatDoor.cl.cy
open Go Go.AM
def eP (p:List Int):AV:= .c4 1 (p.map (bU .i64))
def AB (l:List (Int×Int)):List bD:=l.map λa=>⟨a.1,a.2⟩
def nodes (g:List uH):List Node:=g.map λx=>⟨x.1,AB x.2⟩
def y_at {n:Nat} {p:List Int} {out:List AV} (h:n<out.length):f493 (n:Int) p out=some (true,out.set n (eP p)):=by refine gD (E:=Dr) ?_;refine mR ?_;show(bif Nat.blt n out.length then _ else _)=_;rw[show Nat.blt n out.length=true from gp h];rfl
def c_at {l:List Int} (w:l.length<=1073741824):f460 l=some l:=by refine gD (E:=EN Q2) ?_;refine mR ?_;have q:Nat.ble ((List.map (bU .i64) l).length *8) 140737488355328=true:=gp (by rw[aR];omega);show(bif Nat.ble ((List.map (bU .i64) l).length *8) 140737488355328 then _ else _)=_;rw[q];rfl
def sw:∀(l:List Int) (w out:List (List Int)) (t:Int) (p:List Int),l.length=w.length->yx out (l++[t]) (w++[p])=(yx out l w).set t.toNat p
 |[],[],_,_,_,_=>rfl
 |n::l,q::w,out,t,p,h=>sw l w (out.set n.toNat q) t p (by simpa using h)
def Aa:∀(w:List Int) (l out:List (List Int)),(yx out w l).length=out.length
 |[],l,_=>by cases l<;>rfl
 |n::w,[],_=>rfl
 |n::w,q::l,out=>by rw[yx,Aa w l];simp
def yj:∀{l:List Bool} {m:Nat},l[m]? =some false->((l.set m true).filter id).length=(l.filter id).length+1
 |b::l,0,h=>by simp at h;subst h;rfl
 |b::l,m+1,h=>by have:=yj (l:=l) (m:=m) (by simpa using h);cases b<;>simp[this]
structure Inv (N:Nat) (seen:List Bool) (ns:List Int) (ps:List (List Int)):Prop where
 sl:seen.length=N
 le:ns.length=ps.length
 ct:ns.length<=(seen.filter id).length
 pl:∀(k:Nat) (p:List Int),ps[k]? =some p->p.length<=k
 nb:∀n∈ns,0<=n/\n.toNat<N
def Inv.bd {N:Nat} {l:List Bool} {q:List Int} {w:List (List Int)} (h:Inv N l q w):q.length<=N:=
 cV h.ct (by rw[<-h.sl];exact xZ _ _)
def Tp {j:Nat} (h:j<9223372036854775807):wrap .i64 ((j:Int)+1)=((j+1:Nat):Int):=by rw[jM af af];omega
def inner {N:Nat} (hN:N<=1073741824) {v:FSt} {i:Nat} {log:List AV} {r:Unit×List AV} {p:List Int} {V:List bD} (hV:V.length<=9223372036854775807):∀(l:List (Int×Int)) (j:Nat) (w:List Bool) (L:List Int) (H:List (List Int)) (B:List Bool) (F:List Int) (G:List (List Int)),V.drop j=AB l->AD p l w L H=some (B,F,G)->Inv N w L H->H[i]? =some p->
  (Inv N B F G->L<+:F->H<+:G->zD v ((i+1:Nat):Int) B F G log=some r)->xD v (i:Int) V (V.length:Int) (j:Int) w L H log=some r:=by
 intro l;induction l with
 |nil=>
  intro j w L H B F G W D I P K;simp only[AD,aB,aQ] at D;obtain⟨rfl,rfl,rfl⟩:=D;have hj:V.length<=j:=by have:=aC length W;simp[AB] at this;omega
  have O:=(bp.1 P).1;have:=I.bd;have:=I.le;refine PO _ _ _ _ _ _ _ _ _ ?_;rw[cond_neg aX,cQ af];exact K I (j5 _) (j5 _)
 |cons a l ih=>
  obtain⟨f,t⟩:=a;intro j w L H B F G W D I P K;have hj:V[j]? =some ⟨f,t⟩:=by have:=aC (λz=>z[0]?) W;simpa[AB] using this
  have R:V.drop (j+1)=AB l:=by have:=aC List.tail W;simpa[AB] using this
  have hjl:=(bp.1 hj).1;have O:=(bp.1 P).1;have hbd:=I.bd;have hle:=I.le;refine PO _ _ _ _ _ _ _ _ _ ?_;rw[cond_pos aX,ff hj];unfold AD at D;cases Q:w[t.toNat]? with
  |none=>rw[Q] at D;cases D
  |some b=>
   rw[Q] at D;dsimp only at D;split at D
   .cases D
   .rename_i ht;have U:=(bp.1 Q).1;rw[bJ ⟨by show(0:Int)<=t;omega,U⟩,iA Q];cases b with
    |true=>simp only[ai] at D;simp only[kW,aj];rw[Tp af];exact ih _ _ _ _ _ _ _ R D I P K
    |false=>
     simp only[aj] at D;simp only[Bool.not_false,ai];have hpp:=I.pl _ _ P;have hsz:=I.sl;have hct:L.length+1<=N:=by have h1:=yj Q;have h2:=xZ id (w.set t.toNat true);have h3:=I.ct;simp only[gr] at h2;omega
     rw[bJ ⟨by show(0:Int)<=t;omega,U⟩,iA Q,bJ aX,bJ ⟨af,by rw[bf];exact O⟩,iA (x:=p) (by rw[bf];exact P),c_at af,aI,bJ aX,bJ aX,Tp af];have I':Inv N (w.set t.toNat true) (L++[t]) (H++[p++[f]]):=by
      refine⟨by simpa using hsz,by simp[hle],?_,λk q S=> ?_,λn hn=> ?_⟩
      .rw[yj Q];have:=I.ct;simp;omega
      .by_cases hk:k<H.length
       .rw[c7 hk] at S;exact I.pl _ _ S
       .have hkl:=(bp.1 S).1
        have:k=H.length:=by simp at hkl;omega
        subst this;simp at S;subst S;simp;omega
      .rcases bn.1 hn with h|h
       .exact I.nb n h
       .simp only[cD] at h;subst h;exact⟨af,af⟩
     exact ih _ _ _ _ _ _ _ R D I' (by rw[c7 O];exact P) λI2 h1 h2=>K I2 ((s7 _ _).trans h1) ((s7 _ _).trans h2)
def D6 {w:Type} {l q:List w} {i:Nat} {x:w} (h:l[i]? =some x) (B:l<+:q):q.take (i+1)=q.take i++[x]/\q.take i=l.take i:=by obtain⟨e,rfl⟩:=B;have z:=(bp.1 h).1;refine⟨?_,by rw[xX af]⟩;rw[cS,c7 z,h];rfl
def outer {g:List uH} (hN:g.length<=1073741824) (hV:∀x∈g,x.2.length<=9223372036854775807):∀(k i:Nat) (l:List Bool) (z:List Int) (D:List (List Int)) (B:List Int) (F:List (List Int)),SF g k i l z D=some (B,F)->Inv g.length l z D->i<=z.length->
  zD ⟨nodes g⟩ (i:Int) l z D ((yx (replicate g.length []) (z.take i) (D.take i)).map eP)=some ((),(yx (replicate g.length []) B F).map eP):=by
 intro k;induction k with
 |zero=>intro i l z D B F w;cases w
 |succ k ih=>
  intro i l z D B F w I hi;have S:=I.le;have hbd:=I.bd;refine UA _ _ _ _ _ _ ?_;unfold SF at w;by_cases H:i<z.length
  .obtain⟨n,L⟩:∃n,z[i]? =some n:=⟨_,aW H⟩
   obtain⟨p,P⟩:∃p,D[i]? =some p:=⟨_,aW af⟩
   rw[L,P] at w;dsimp only at w;obtain⟨h0,K⟩:=I.nb n (aS L);obtain⟨m,rfl⟩:∃m:Nat,n=m:=⟨n.toNat,af⟩
   rw[bf] at K w;obtain⟨x,U⟩:∃x,g[m]? =some x:=⟨_,aW K⟩
   rw[U] at w;dsimp only at w;have V:(nodes g)[m]? =some ⟨x.1,AB x.2⟩:=by simp[nodes,U]
   rw[cond_pos aX,bJ ⟨af,by rw[bf];exact H⟩,iA (x:=(m:Int)) (by rw[bf];exact L),bJ ⟨af,by rw[bf];omega⟩,iA (x:=p) (by rw[bf];exact P),y_at (by simp[Aa,K]),Bo];simp only[kW,aj];rw[bJ ⟨af,by rw[bf];exact H⟩,iA (x:=(m:Int)) (by rw[bf];exact L),ff V];cases R:AD p x.2 l z D with
   |none=>rw[R] at w;cases w
   |some q=>
    obtain⟨G,N,O⟩:=q;rw[R] at w;dsimp only at w;refine inner hN (by simpa[AB] using hV x (aS U)) x.2 0 l z D G N O rfl R I P λI2 W Q=> ?_
    have:=ih (i+1) G N O B F w I2 (by have:=W.length_le;omega);obtain⟨a1,a2⟩:=D6 L W;obtain⟨b1,b2⟩:=D6 P Q;rw[a1,b1,a2,b2,sw _ _ _ _ _ (by simp[S]),bf,gq] at this;exact this
  .have e1:z[i]? =none:=fE af
   have:z.take i=z:=jS af
   have Q:D.take i=D:=jS af;rw[e1] at w;simp only[aB,aQ] at w;obtain⟨rfl,rfl⟩:=w;rw[cond_neg aX,this,Q]
def ME {g:List uH} {F:List (List Int)} (B:0<g.length) (G:g.length<=1073741824) (H:∀x∈g,x.2.length<=9223372036854775807) (h:tP g=some F):
  f492 ⟨nodes g⟩ (replicate g.length (.c4 1 []))=some ((),F.map eP):=by
 unfold tP at h;obtain⟨⟨w,z⟩,K,rfl⟩:=bg.1 h;refine e492 _ _ ?_;have L:(nodes g).length=g.length:=by simp[nodes]
 have l:(replicate g.length false)[0]? =some false:=by simp[B]
 have I:Inv g.length ((replicate g.length false).set 0 true) [0] [[]]:=by
  refine⟨ah,rfl,?_,λk p q=> ?_,λn D=> ?_⟩
  .rw[yj l];simp
  .cases k with
   |zero=>simp at q;subst q;exact aJ _
   |succ k=>simp at q
  .simp only[cD] at D;subst D;exact⟨af,by simpa using B⟩
 have:=outer G H (g.length+1) 0 _ _ _ w z K I (cB _);show check _ _=_;rw[bJ ⟨af,by omega,by show 1 *toNat ((nodes g).length:Int)<=_;omega,by show(((nodes g).length:Int))<=_;omega⟩,bJ ⟨af,by show _<(replicate (toNat ((nodes g).length:Int)) false).length;simp;omega⟩];simp only[L,bf,Int.toNat_zero];rw[iA l];simpa[yx,eP] using this
