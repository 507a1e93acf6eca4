/- slices.SortedFunc over slices.Values of arcs, taken as a pri. -/
import Derived.Test.YtbnlhmaaccgbjaaGreatDoorClQf
import Derived.Test.YtbnlhmaaccgbjaaGreatDoorClY
import Derived.WalkKit
import Derived.Lib.Strings
import Derived.Lib.Slices
import Derived.Lib.Walk
import Derived.Lib.Bytealg
import Derived.Deep.RegionLaw
import Derived.Deep.Upon
import Derived.Test.YtbnlhmaaccgbjaaGreatDoorCards
import Derived.Test.YtbnlhmaaccgbjaaGreatDoorTie
import Derived.ProofKit
import Derived.OpenShut
import Derived.Deep.DeepHandedRow
import Derived.Stop.LaidErr
set_option linter.all false
set_option maxRecDepth 100000
set_option maxHeartbeats 2000000
namespace Go.Proofs.YtbnlhmaaccgbjaaGreatDoor.cl
open Go Go.AM Go.RowKit
attribute [local go_sem] Oper.semAt_some
def Al.c2 {S:SK} {l:Mu} (x:Al S l):C2:=⟨x.cells,x.len,x.one⟩
def Xi {S:SK} {q:Mu} (l:List (Al S q)):flat (l.map Al.c2)=(l.map Al.cells).flatten:=by simp[flat,Al.c2,nx]
def sortedA {μ:Mu} {loc:Nat->Value} {w:World} {xs:List (List AV)} {l:List (Int×Int)} {u:Value} (oC:Mb μ w) (hl:Bg xs=some l) (hap:Bf l=true) (hlen:l.length<=1073741824) (hu:rep μ (.fn 302 [.ref [.dD 2 xs]]) u):
  Calls P 257 #[u, .func (.func 259) #[] #[]] w λe w'=>∃v μ' loc',e= .returned v/\fN False μ loc [] (.iQ [.iQ [.self 61, .dD 2 ((tO VV l).map R2)]]) [] w v μ' loc' w':=by
 have hxs:=MR hl;subst hxs;rw[rep.eq_def] at hu;dsimp only at hu;obtain⟨vs,rfl,p,vs',rfl,hp,hvs'⟩:=hu
 have:vs'=[]:=hvs'
 subst this;rw[rep.eq_def] at hp;dsimp only at hp;obtain⟨b,off,cs,rfl,⟨sl,cs',rfl,hsl,hcs'⟩,h1c,hc⟩:=hp
 have:cs'=[]:=hcs'
 subst this;have hsl0:=hc 0 sl rfl;rw[mb] at hsl0;rw[rep.eq_def] at hsl;dsimp only at hsl;obtain⟨A,c,rfl,hc1,Vl,hA⟩:=hsl;have hcell:=yI (oC _ _ _ hsl0) rfl;have hlt:=sF (oC _ _ _ hsl0);obtain⟨als,ha1,hcc⟩:∃als:List (Al SKa μ),als.map (λx=>x.1.1)=l/\(als.map Al.c2=[]\/∃b off,A=some ⟨b,off,none⟩/\b<w.heap.size/\∀j u,(flat (als.map Al.c2))[j]? =some u->w.cell? ⟨b,off+j,none⟩=some u):=by
  rcases hA with h0|⟨b',off',ea,hrow⟩
  .have:l=[]:=by simpa using h0
   subst this;exact⟨[],rfl, .inl rfl⟩
  .obtain⟨us,k1,k2⟩:=uo hrow;have k3:=kU k1;obtain⟨als,e1,e2⟩:=aaO (S:=SKa) (l:=l) (λp _=>trivial) k1;refine⟨als,e1,?_⟩;cases hl0:als with
   |nil=>exact .inl rfl
   |cons x0 als0=>
    rw[<-hl0];refine .inr ⟨b',off',ea,?_,λj u hj=> ?_⟩
    .have hx:=x0.len;obtain⟨u0,hu0⟩:∃u0,us[0]? =some u0:=by
      rw[e2,hl0];cases hx':x0.cells with
      |nil=>rw[hx'] at hx;simp at hx
      |cons a t=>exact⟨a,by simp[hx']⟩
     exact sF (oC _ _ _ (k2 0 u0 hu0))
    .rw[Xi,<-e2] at hj;exact yI (oC _ _ _ (k2 j u hj)) (k3 u (aZ hj))
 have hal:(als.map Al.c2).length=l.length:=by rw[<-ha1];simp
 have hll:(l.map R2).length=(als.map Al.c2).length:=by rw[hal];simp
 rw[hll] at hcell;refine(uH (n:=9)).1 ?_;have hf1:Fence.wide.fn 300:=trivial;have hf2:Fence.wide.fn 301:=trivial;have hn:1<=9:=by decide
 refine zy Tryz.func257 rfl trivial ?_ rfl;simp only[Tryz.ntmps257,pR,bp,dH,Nat.reduceAdd,Nat.reduceSub,vc,ve,vf,vg,dK,gi]
 gi_wp2_with (gi_at_call 300;refine(abb (n:=8) af (xs:=als.map Al.c2) af hlt hcell hcc).mono ?_;rintro e w1 ⟨v,rfl,hrow,hb⟩)
 have hpub1:Mb μ w1:=λb j x hx=>by have h:=oC b j x hx;rw[jx (hb.block b (sF h)) j];exact h
 have hbase:∀g,lI v g->w.heap.size<=g:=λg hg=>by
  rcases hrow.2 with⟨e,_⟩|⟨g',cap,cur,e,h2,_⟩
  .rw[e] at hg;rcases hg with hg|⟨us,hg,_⟩<;>cases hg
  .rw[e] at hg;rcases hg with hg|⟨us,hg,_⟩
   .cases hg;exact h2
   .cases hg
 have C8:∀g,lI v g->∀j,μ g j=none:=λg hg j=>by cases hm:μ g j with
  |none=>rfl
  |some x=>have:=sF (oC _ _ _ hm);have:=hbase g hg;omega
 have hrc:cT μ 2 (l.map R2) (flat (als.map Al.c2)):=by rw[Xi,<-ha1,fo];exact adP als
 have qQ:nv w1.heap.size (iy False (λ_=>v) [10000]) μ (λ_=>v) w1 10000 (.row 61 2 (l.map R2)):=by
  refine⟨_,?_,hrc,λg hg=>⟨.inr (.inr ⟨v,by simp[iy],hg⟩),C8 g hg⟩⟩;rw[hll];refine⟨hrow.1,?_⟩;rcases hrow.2 with h|⟨g,cap,cur,h1,_,h2⟩
  .exact .inl h
  .exact .inr ⟨g,cap,cur,h1,cW _,h2⟩
 have hs:=sort47 (S:=SKa) (l:=l) Tryz.laysF6a Tryz.isAgg61 Tryz.sizeOf61 hlen (by rw[aaK];exact Y0 hap) (λp _=>trivial) hpub1 qQ;rw[aaK] at hs;refine((uH (n:=8)).2 hs).mono ?_;rintro e w2 ⟨v2,μ2,loc2,rfl,hP⟩
 gi_wp2
 go_ret
 have Ss:=hP.fix 10000 ai (by decide) (by decide);obtain⟨vs2,EY,ZE,hbl2⟩:=hP.obs 10000 _ rfl;rw[Ss] at EY hbl2;have hin:∀g,bH v=some g->lI v g:=λg hg=> .inl hg
 have hk:∀b,b<w.heap.size->w2.heap[b]? =w.heap[b]? :=λb hlt=>
  (hP.keep b (e8 hlt hb.size) (by
   rintro⟨id,v',h1,h2⟩
   have:v'=v:=by
    simp only[iy] at h1;split at h1
    .exact(eT h1).symm
    .cases h1
   rw[this] at h2
   have:=hbase b h2;omega)).trans (hb.block b hlt)
 refine⟨_,μ2,loc,rfl,?_⟩
 exact {
  ext:=⟨hP.ext.1,λb j x hx=>by
   rcases hP.ext.2 b j x hx with h|h|⟨id,_,h1,h2,hx,_⟩
   .exact .inl h
   .exact .inr (.inl (e7 hb.size h))
   .simp only[iy] at hx;split at hx
    .rename_i hm;simp at hm;omega
    .cases hx⟩
  xZ:=hP.xZ
  res:= .inr (.inr (.inr ⟨61,2,_,vs2,rfl,EY,ZE,λg hg=>⟨.inl (hbase g (hin g hg)),(hbl2 g (hin g hg)).2,λid o h=>by cases h⟩⟩))
  obs:=λid o h=>by cases h
  apart:=λi j oi oj h=>by cases h
  keep:=λb hlt _=>hk b hlt
  fix:=λid h=>by cases h
  os:=hP.os.trans hb.os
  tape:=hP.tape.trans hb.tape
  output:=hP.output.trans hb.output
  grown:=e7 hb.size hP.grown
  drawn:=λh=>h.elim }
end Go.Proofs.YtbnlhmaaccgbjaaGreatDoor.cl
set_option maxRecDepth 100000
set_option maxHeartbeats 2000000
namespace Go.Proofs.YtbnlhmaaccgbjaaGreatDoor.cl
open Go Go.AM Go.RowKit
def cmp119 (a b:ByteArray) (w:World):Calls P 140 #[.string a, .string b] w λe w'=>e= .returned (.int .i64 (Lib.compareBytes a.data.toList b.data.toList))/\w'=w:=by
 go_enter Tryz.func140,Tryz.ntmps140
 go_wp2
 rw[run_callFunc_extern Tryz.func184 (by kernel_rfl) (by kernel_rfl) (by kernel_rfl) (e:=Extern.BytealgCompare.compare) (by kernel_rfl),Lib.run_compareString];simp only[Result.andThen];rw[Oper.upon_value]
 go_wp2
 go_ret
 exact⟨rfl,rfl⟩
def cmp65 (a b:ByteArray) (w:World):Calls P 83 #[.string a, .string b] w λe w'=>e= .returned (.int .i64 (Lib.compareBytes a.data.toList b.data.toList))/\w'=w:=by
 go_enter Tryz.func83,Tryz.ntmps83
 go_wp2_with (go_at_call 140;refine(cmp119 _ _ _).mono ?_;rintro e w' ⟨rfl,rfl⟩)
 go_ret
 exact⟨rfl,rfl⟩
def JV:∀a b:List UInt8,Lib.compareBytes a b=Mj a b
 |[],[]=>rfl
 |[],_::_=>rfl
 |a::x,[]=>by have e:(a::x==([]:List UInt8))=false:=rfl;unfold Mj;rw[e];rfl
 |a::x,b::y=>by
  have z:=JV x y;unfold Lib.compareBytes;unfold Mj at z⊢;unfold Op.bytesLess;by_cases l:a<b
  .simp[l]
  .by_cases q:b<a
   .have w:a≠b:=λe=>l (e▸q)
    have e1:(a==b)=false:=by simpa using w
    simp[l,q,e1]
   .have B:a=b:=UInt8.le_antisymm (UInt8.not_lt.1 q) (UInt8.not_lt.1 l);subst B;rw[au l,au l,z];simp[l]
end Go.Proofs.YtbnlhmaaccgbjaaGreatDoor.cl
set_option maxRecDepth 1000000
set_option maxHeartbeats 4000000
namespace Go.Proofs.YtbnlhmaaccgbjaaGreatDoor.cl
open Go Go.AM Go.RowKit
def Fs (cur:Array Value):Nat->List Value->Array Value
 |_,[]=>cur
 |o,v::r=>Fs (cur.setIfInBounds o v) (o+1) r
def yB:∀(q:List Value) (o:Nat) (l:Array Value),(Fs l o q).size=l.size
 |[],_,_=>rfl
 |v::r,o,l=>by rw[Fs,yB r];simp
def BT:∀(q:List Value) (o:Nat) (l:Array Value),o+q.length<=l.size->(Fs l o q).toList=l.toList.take o++q++l.toList.drop (o+q.length)
 |[],o,l,_=>by simp[Fs]
 |v::r,o,l,h=>by rw[bp] at h;rw[Fs,BT r (o+1) _ aH,Array.toList_setIfInBounds,de,kJ aH,G9 (aU _),He af];simp[kX,kY,Nat.add_left_comm]
def Ac {g:Nat} {e:TypeId}:∀(l:List Value) (o:Nat) {w:World} {cur:Array Value},w.heap[g]? =some (.cells cur e (0,0))->(w.setCells g o l).heap[g]? =some (.cells (Fs cur o l) e (0,0))
 |[],_,_,_,h=>h
 |v::r,o,w,cur,h=>by refine Ac r (o+1) (w:=w.setCell ⟨g,o,none⟩ v) (cur:=cur.setIfInBounds o v) ?_;show(w.heap.modify g _)[g]? =_;rw[zn,aB rfl,h];rfl
def xX (g:Nat):∀(l:List Value) (o:Nat) (w:World),(w.setCells g o l).tape=w.tape
 |[],_,_=>rfl
 |v::r,o,w=>xX g r (o+1) _
def tC (g:Nat):∀(l:List Value) (o:Nat) (w:World),(w.setCells g o l).heap.size=w.heap.size
 |[],_,_=>rfl
 |v::r,o,w=>(tC g r (o+1) _).trans (by show(w.heap.modify g _).size=_;simp)
def RQ (w:World) (t e ty:TypeId) (z:Value) (G:P.underlying t=some (.slice e)) (H:∀w,(zeroValue e).run P w= .ok z w) (b o n c:Nat) (I:0<n) (Z:List Value) (B:(Builtin.zeroCells z.cells n).toList=Z) (q:∀v∈Z,v.oneCell'=true)
  (D:∀j,j<Z.length->(w.cell? ⟨b,o+j,none⟩).isSome=true) (F:∀j,j<Z.length->w.frozen? ⟨b,o+j,none⟩=false):
  (Builtin.clear_ #[t] ty #[.slice (some ⟨b,o,none⟩) n c]).run P w= .ok (.tuple #[]) (w.setCells b o Z):=by
 have l:=run_storeCells_cells (P:=P) b o Z 0 w (by simpa using D) (by simpa using F) q;simp only[mb] at l;obtain⟨m,rfl⟩:∃m,n=m+1:=⟨n-1,af⟩
 simp[Builtin.clear_,bM G,H,B,l]
def zC:List Value:=[.string ⟨#[]⟩, .int .i64 0, .string ⟨#[]⟩, .slice none 0 0, .slice none 0 0, .slice none 0 0]
def Rg:Nat->List Value
 |0=>[]
 |n+1=>zC++Rg n
def Ra:∀n,(Rg n).length=n *6
 |0=>rfl
 |n+1=>by rw[Rg,cF,Ra n,ny,kY];rfl
def Rb:∀n,∀v∈Rg n,v.oneCell'=true
 |0,v,h=>by cases h
 |n+1,v,h=>by
  rcases bu.1 h with h|h
  .simp only[zC,aJ,lW,nJ] at h;rcases h with rfl|rfl|rfl|rfl|rfl|rfl<;>rfl
  .exact Rb n v h
def aey (n:Nat):(Builtin.zeroCells zC.toArray n).toList=Rg n:=by
 have key:∀n,(List.range (n *6)).map (λi=>zC.toArray[i % 6]!)=Rg n:=by intro n;induction n with
  |zero=>rfl
  |succ n l=>
   rw[ny,kY,wL,cn,fo,Rg,<-l];congr 1;refine gY λi _=> ?_
   show zC.toArray[(6+i) % 6]! =_;rw[Nat.add_mod_left]
 rw[<-key n];unfold Builtin.zeroCells;simp[zC]
def YT {l:Mu}:∀n,cT l 6 (List.replicate n aez) (Rg n)
 |0=>rfl
 |n+1=>by
  rw[q7];have nl:∀k,rep l (.dD k []) (.slice none 0 0):=λk=>by rw[rep];exact⟨none,0,rfl,aU _,cW _, .inl rfl⟩
  exact⟨zC,Rg n,rfl,⟨⟨_,_,rfl,by rw[rep],_,_,rfl,by rw[rep],_,_,rfl,by rw[rep],_,_,rfl,nl _,_,_,rfl,nl _,_,_,rfl,nl _,rfl⟩,λu q=>Rb 1 u (by simpa[Rg] using q)⟩,rfl,YT n⟩
def lu {w:Mu} {l:Nat}:∀(i:Nat) {xs:List (List AV)} {q:List Value},cT w l xs q->cT w l (xs.take i) (q.take (i *l))/\cT w l (xs.drop i) (q.drop (i *l))
 |0,xs,q,h=>by rw[wM];exact⟨rfl,h⟩
 |i+1,[],q,h=>by
  have:q=[]:=h
  subst this;rw[List.take_nil,List.take_nil,List.drop_nil,List.drop_nil];exact⟨rfl,rfl⟩
 |i+1,x::xs,q,h=>by
  obtain⟨B,ws,rfl,D,z,F⟩:=h;obtain⟨a,b⟩:=lu i F;have e:(i+1) *l=B.length+i *l:=by rw[ny,z,kY]
  rw[G7,G6,e,Hi,A6];exact⟨⟨B,ws.take (i *l),rfl,D,z,a⟩,b⟩
def z7 {z:Mu} {w:Nat}:∀{xs q:List (List AV)} {l ws:List Value},cT z w xs l->cT z w q ws->cT z w (xs++q) (l++ws)
 |[],q,l,ws,h,k=>by
  have:l=[]:=h
  subst this;exact k
 |x::xs,q,l,ws,h,k=>by obtain⟨H,G,rfl,B,D,F⟩:=h;exact⟨H,G++ws,by rw[eo],B,D,z7 F k⟩
def del72 {μ:Mu} {loc:Nat->Value} {w:World} {xs:List (List AV)} {i j:Nat} (hij:i<j) (hj:j<=xs.length) (oC:Mb μ w) (qQ:nv w.heap.size (iy False loc [10000]) μ loc w 10000 (.row 66 6 xs)):
  Calls P 90 #[loc 10000, .int .i64 i, .int .i64 j] w λe w'=>∃v μ' loc',e= .returned v/\fN False μ loc [10000] (.self ((xs.length-(j-i):Nat))) [(10000, .row 66 6 (xs.take i++xs.drop j++List.replicate (j-i) aez))] w v μ' loc' w':=by
 obtain⟨vs,hown,hrc,hbl⟩:=qQ;have hvl:=dc hrc;have hv1:=kU hrc;rcases hown.2 with⟨_,h0⟩|⟨g,cap,cur,e1,_,hg,hcap,hmax,hsz,Nd⟩
 .omega
 .obtain⟨hownB,C8⟩:=hbl g (by rw[e1];exact ia.2 rfl);rw[e1];obtain⟨i0,hi0,Un,hz1,hz2⟩:=info_parts (show(P.info? 66).map (λi=>(i.zero,i.size,i.bytes))=some (some (.agg zC.toArray),6,112) by kernel_rfl);have hcz:cur.size=cap *6:=hsz;have Xr:∀k,k<xs.length *6->cur.toList[k]? =vs[k]? :=λk hk=>by
   rw[<-Nd,oR,aB hk]
  have hcell:∀k u,vs[k]? =some u->w.drew.cell? ⟨g,k,none⟩=some u:=λk u hk=>by have hkl:=(bQ.1 hk).1;have:=(Xr k af).trans hk;rw[Array.getElem?_toList] at this;show w.cell? _=_;unfold World.cell?;simp[hg,this]
  have hsome:∀k,k<cap *6->(w.drew.cell? ⟨g,k,none⟩).isSome=true:=λk hk=>by show(w.cell? _).isSome=true;unfold World.cell?;simp[hg,hcz,hk]
  have hfroz:∀k,w.drew.frozen? ⟨g,k,none⟩=false:=λk=>by show w.frozen? _=false;unfold World.frozen?;simp[hg]
  obtain⟨news,hnews⟩:∃news,news=vs.drop (j *6):=⟨_,rfl⟩
  have hlen:news.length=(xs.length-j) *6:=by rw[hnews,iN,hvl,Nat.sub_mul]
  obtain⟨A,hA,hsrc⟩:∃A:Addr,(if cap=j then some (⟨g,0,none⟩:Addr) else some ⟨g,j *6,none⟩)=some A/\Hid (∀t u,news[t]? =some u->w.drew.cell? (A.add t)=some u):=by
   by_cases h:cap=j
   .refine⟨⟨g,0,none⟩,by simp[h],λt u hu=> ?_⟩;have h0:news.length=0:=by rw[hlen];omega
    rw[nU.1 h0] at hu;simp at hu
   .refine⟨⟨g,j *6,none⟩,by simp[h],λt u hu=> ?_⟩;rw[hnews,wJ] at hu;rw[zx];exact hcell _ _ hu
  have s1:Hid (news.length=(xs.length-j) *6):=hlen;have s2:Hid (∀u∈news,u.oneCell'=true):=λu hu=>hv1 u (ji (by rw[<-hnews];exact hu))
  have s3:Hid (∀t,t<news.length->(w.drew.cell? ⟨g,0+i *6+t,none⟩).isSome=true/\w.drew.frozen? ⟨g,0+i *6+t,none⟩=false):=λt ht=>by rw[hlen] at ht;exact⟨hsome _ af,hfroz _⟩
  obtain⟨W1,hW1⟩:∃W1,W1=w.drew.setCells g (0+i *6) news:=⟨_,rfl⟩
  have hg1:W1.heap[g]? =some (.cells (Fs cur (0+i *6) news) 66 (0,0)):=by rw[hW1];exact Ac _ _ hg
  have abV:∀k,k<cap *6->(W1.cell? ⟨g,k,none⟩).isSome=true:=λk hk=>by unfold World.cell?;simp[hg1,yB,hcz,hk]
  have abM:∀k,W1.frozen? ⟨g,k,none⟩=false:=λk=>by unfold World.frozen?;simp[hg1]
  have hcl:∀ty,(Builtin.clear_ #[23] ty #[.slice (some ⟨g,(i+(xs.length-j)) *6,none⟩) (xs.length-(i+(xs.length-j))) (cap-(i+(xs.length-j)))]).run P W1= .ok (.tuple #[]) (W1.setCells g ((i+(xs.length-j)) *6) (Rg (xs.length-(i+(xs.length-j))))):=λty=>RQ W1 23 66 ty (.agg zC.toArray) Tryz.underlying23 Tryz.zeroValue66 g _ _ _ af _ (aey _) (Rb _) (λt ht=>by rw[Ra] at ht;exact abV _ af) (λt ht=>abM _)
  have X:Aside (W1.heap[g]? =some (.cells (Fs cur (0+i *6) news) 66 (0,0))):=hg1;have hW:Hid (W1=w.drew.setCells g (0+i *6) news):=hW1;have hic:i<=cap:=af;have hjc:j<=cap:=af;generalize hn:xs.length=n at *;have fin:Aside (∀W2,W2=W1.setCells g ((i+(n-j)) *6) (Rg (n-(i+(n-j))))->∃μ' loc',fN False μ loc [10000] (.self ((n-(j-i):Nat))) [(10000, .row 66 6 (xs.take i++xs.drop j++List.replicate (j-i) aez))] w (.slice (some ⟨g,0,none⟩) (i+(n-j)) cap) μ' loc' W2):=by
   rintro W2 rfl;have ez:n-(i+(n-j))=j-i:=af;have ek:(i+(n-j)) *6=i *6+news.length:=by rw[hlen,jA]
   have hzl:=Ra (j-i);have hs1:(Fs cur (0+i *6) news).size=cap *6:=(yB _ _ _).trans hcz;have t1:=BT news (0+i *6) cur (by rw[hlen];omega);have t2:=BT (Rg (j-i)) ((i+(n-j)) *6) (Fs cur (0+i *6) news) (by rw[hs1,hzl];omega);have hl0:(cur.toList.take (i *6)).length=i *6:=by rw[fJ,tG,hcz];omega
   have hvt:vs.take (i *6)=cur.toList.take (i *6):=by rw[<-Nd,List.take_take,wP af]
   have t3:(Fs cur (0+i *6) news).toList.take ((i+(n-j)) *6)=vs.take (i *6)++news:=by rw[t1,eO,ek,hvt];exact uV (by rw[cF,hl0])
   have t4:(Fs (Fs cur (0+i *6) news) ((i+(n-j)) *6) (Rg (j-i))).toList.take (n *6)=vs.take (i *6)++news++Rg (j-i):=by
    have hl:(vs.take (i *6)++news++Rg (j-i)).length=n *6:=by rw[cF,cF,hvt,hl0,hlen,hzl];omega
    rw[t2,t3];exact uV hl
   rw[ez];have hlx:(xs.take i++xs.drop j++List.replicate (j-i) aez).length=n:=aH;have hg2:=Ac (Rg (j-i)) ((i+(n-j)) *6) hg1;obtain⟨r1,_⟩:=lu i hrc;obtain⟨_,r2⟩:=lu j hrc;rw[<-hnews] at r2;refine⟨μ,loc,TR (w:=w) (cur:=cur) (n:=n) (us:=vs.take (i *6)++news++Rg (j-i)) oC e1 hcap hmax hsz hownB C8 hg2 (by rw[yB,hs1,hcz]) t4 (by rw[<-t4,fJ,tG,yB,hs1];omega) (λb hb hne=> ?_) ?_ ?_ ?_ ?_ hlx (z7 (z7 r1 r2) (YT _)) (.inr ⟨_,_,_,_,rfl,e1,by omega,by congr 1;omega⟩)⟩
   .rw[hW1] at *;rw[World.heap_setCells_other _ _ _ _ (by rw[tC];exact hb) hne,World.heap_setCells_other _ _ _ _ (by exact hb) hne];rfl
   .rw[World.os_setCells,hW1,World.os_setCells];rfl
   .rw[xX,hW1,xX];rfl
   .rw[World.output_setCells,hW1,World.output_setCells];rfl
   .rw[tC,hW1,tC];exact aU _
  clear hW1 hg1 hsome hfroz abV abM hcell Xr hnews hlen hown hrc hbl Nd hsz hcz hg hv1 hvl oC
  go_enter Tryz.func90,Tryz.ntmps90
  go_wp2_with fail
  go_region_law (refine step_append_room rfl (.tmp 22) (.tmp 25) 23 rfl 66 i0 6 Tryz.underlying23 hi0 hz1 g 0 i cap (by simp[Act.eval,Act.put]) A (n-j) (cap-j) news (by simp[Act.eval,Act.put]) s1.out hsrc.out s2.out af s3.out ?_;rw[<-hW.out])
  go_wp2
  go_ret
  obtain⟨μ',loc',h⟩:=fin.out _ rfl;exact⟨_,μ',loc',rfl,h⟩
end Go.Proofs.YtbnlhmaaccgbjaaGreatDoor.cl
namespace Go.Proofs.YtbnlhmaaccgbjaaGreatDoor.cl
open Go Go.AM Go.RowKit
def Z9:∀{xs:List (List AV)} {l:List (List UInt8)},strs xs=some l->xs=l.map oO:=by intro xs;induction xs with
 |nil=>intro l h;simp[strs] at h;subst h;rfl
 |cons c xs z=>
  intro l h;unfold strs at h;split at h
  .rename_i e;cases e
  .rename_i s B e;injection e with e1 q;subst e1 q;simp only[cB] at h;obtain⟨m,w,rfl⟩:=h;rw[z w];rfl
  .cases h
def post_of {z:Mu} {q:Nat->Value} {w D:World} {r:AV} {v:Value} (F:Mb z w) (l:Below w.heap.size w D) (G:rep z r v):fN False z q [] r [] w v z q D where
 ext:=Mu.ext.toL ⟨Mu.le.refl _,λ_ _ _ h=> .inl h⟩
 xZ:=λb j x H=>by have h:=F b j x H;rw[jx (l.block b (sF h)) j];exact h
 res:= .inl G
 obs:=λid o h=>by cases h
 apart:=λi j I K h=>by cases h
 keep:=λb B _=>l.block b B
 fix:=λid h=>by cases h
 os:=l.os
 tape:=l.tape
 output:=l.output
 grown:=l.size
 drawn:=λh=>h.elim
def jj {D:Nat} {L:sQ} {G:Mu} {l:Nat->Value} {w:World} {id e F:Nat} {xs:List (List AV)} (h:nv D L G l w id (.row e F xs)):fS (l id)=l id:=by
 obtain⟨H,q,_⟩:=h;rcases q.2 with⟨e1,_⟩|⟨g,z,B,e1,_⟩
 .rw[e1];rfl
 .rw[e1];rfl
def Yf {B:Mu}:iB False B P gI:=by
 intro g args cL r BD z w μ U us hB G Q hap K;unfold gI at z;split at z
 .rename_i xs;obtain⟨N,z⟩:=bW z;simp only[aW,ck] at z;obtain⟨rfl,rfl⟩:=z;obtain⟨R,H,rfl,D,q⟩:=K
  have:H=[]:=q
  subst this;exact .inl ⟨by decide,λO=>qh Tryz.func158 (by decide) (by rfl) _ O,aa8 (q:=False) (λh=>h) G D (fI N)⟩
 .rename_i xs;obtain⟨N,z⟩:=bW z;simp only[aW,ck] at z;obtain⟨rfl,rfl⟩:=z;obtain⟨R,H,rfl,D,q⟩:=K
  have:H=[]:=q
  subst this;exact .inl ⟨by decide,λO=>qh Tryz.func56 (by decide) (by rfl) _ O,aa7 (q:=False) (λh=>h) G D (fI N)⟩
 .rename_i xs;obtain⟨N,z⟩:=bW z;simp only[aW,ck] at z;obtain⟨rfl,rfl⟩:=z;obtain⟨R,H,rfl,D,q⟩:=K
  have:H=[]:=q
  subst this;exact .inl ⟨by decide,λO=>qh Tryz.func47 (by decide) (by rfl) _ O,clone31 (q:=False) (λh=>h) G D (fI N)⟩
 .rename_i xs;obtain⟨N,z⟩:=bW z;simp only[aW,ck] at z;obtain⟨rfl,rfl⟩:=z;obtain⟨R,H,rfl,D,q⟩:=K
  have:H=[]:=q
  subst this;exact .inl ⟨by decide,λO=>qh Tryz.func80 (by decide) (by rfl) _ O,clone62 (q:=False) (λh=>h) G D (fI N)⟩
 .rename_i xs;split at z
  .rename_i l hl;obtain⟨N,z⟩:=bW z;simp only[aW,ck] at z;obtain⟨rfl,rfl⟩:=z;have hxs:=Z9 hl;subst hxs;obtain⟨R,H,rfl,D,q⟩:=K
   have:H=[]:=q
   subst this;have I:R=U 10000:=(show R=fS (U 10000) from D).trans (jj (Q 10000 _ rfl));subst I;exact .inl ⟨by decide,λO=>qh Tryz.func186 (by decide) (by rfl) _ O,sort80 (fI N) G (Q 10000 _ rfl)⟩
  .cases z
 .rename_i xs;split at z
  .rename_i l hl;obtain⟨N,z⟩:=bW z;simp only[aS] at N;simp only[aW,ck] at z;obtain⟨rfl,rfl⟩:=z;obtain⟨R,H,rfl,D,q⟩:=K;obtain⟨u1,V,rfl,S,L⟩:=q
   have:V=[]:=L
   subst this;have F:rep μ (.fn 259 []) u1:=S;rw[rep.eq_def] at F;dsimp only at F;obtain⟨vs,rfl,hvs⟩:=F
   have:vs=[]:=hvs
   subst this;exact .inl ⟨by decide,λO=>qh Tryz.func257 (by decide) (by rfl) _ O,sortedA G hl N.1 (fI N.2) D⟩
  .cases z
 .rename_i a b;simp only[aW,ck] at z;obtain⟨rfl,rfl⟩:=z;obtain⟨R,H,rfl,D,q⟩:=K;obtain⟨u1,V,rfl,S,L⟩:=q
  have:V=[]:=L
  subst this;have I:rep μ (.str a) R:=D;have F:rep μ (.str b) u1:=S;rw[rep] at I F;subst I F;refine .inl ⟨by decide,λO=>qh Tryz.func83 (by decide) (by rfl) _ O,(cmp65 _ _ w).mono ?_⟩;rintro e w' ⟨rfl,rfl⟩;exact⟨_,μ,U,rfl,post_of G (ij _ _) (by rw[rep];exact aP (Value.int .i64) (JV a b))⟩
 .rename_i i j e xs;obtain⟨N,z⟩:=bW z;simp only[aS,nM] at N;obtain⟨⟨⟨hi,hij⟩,hj⟩,he⟩:=N;have he:=tI he;subst he;simp only[aW,ck] at z;obtain⟨rfl,rfl⟩:=z;obtain⟨R,H,rfl,D,q⟩:=K;obtain⟨u1,V,rfl,S,L⟩:=q;obtain⟨u2,us3,rfl,hu2,hus3⟩:=L
  have:us3=[]:=hus3
  subst this;have I:R=U 10000:=(show R=fS (U 10000) from D).trans (jj (Q 10000 _ rfl));subst I;have F:rep μ (.int .i64 i) u1:=S;have hu2':rep μ (.int .i64 j) u2:=hu2;rw[rep] at F hu2';subst F hu2';obtain⟨a,rfl⟩:=gm hi;obtain⟨b,rfl⟩:=gm (by omega:0<=j);have h:=del72 (i:=a) (j:=b) af af G (Q 10000 _ rfl);have e1:((b:Int)-(a:Int)).toNat=b-a:=af;rw[bg,bg,e1];exact .inl ⟨by decide,λO=>qh Tryz.func90 (by decide) (by rfl) _ O,h⟩
 .cases z
def WX {B:Mu}:∀f fn c,P.funcs[f]? =some fn->fn.body=some c->qY False B P (H f) fn.ntmps c:=λf fn c _ _=>qY.none (abS f) c
end Go.Proofs.YtbnlhmaaccgbjaaGreatDoor.cl
set_option maxRecDepth 100000
namespace Go.Proofs.YtbnlhmaaccgbjaaGreatDoor.cl
open Go Go.AM Go.RowKit Go.ChangeShapes Go.WideShapes Go.ChangeAt
def own:ownKnob Tryz.prog.godebug=none:=by kernel_rfl
def Wq (q:Array Value):Obj->Obj
 | .cells _ t l=> .cells q t l
 |o=>o
noncomputable def vz (l:Os):World:=
 {World.holding Tryz.prog l ⟨#[], #[],[]⟩ with heap:=(((World.holding Tryz.prog l ⟨#[], #[],[]⟩).heap.modify 1 (Wq #[.int .u8 0, .int .u8 1, .int .u8 56, .int .u8 2, .int .u8 57, .int .u8 49, .int .u8 28, .int .u8 3, .int .u8 61, .int .u8 58, .int .u8 42, .int .u8 50, .int .u8 38, .int .u8 29, .int .u8 17, .int .u8 4, .int .u8 62, .int .u8 47, .int .u8 59, .int .u8 36, .int .u8 45, .int .u8 43, .int .u8 51, .int .u8 22, .int .u8 53, .int .u8 39, .int .u8 33, .int .u8 30, .int .u8 24, .int .u8 18, .int .u8 12, .int .u8 5, .int .u8 63, .int .u8 55, .int .u8 48, .int .u8 27, .int .u8 60, .int .u8 41, .int .u8 37, .int .u8 16, .int .u8 46, .int .u8 35, .int .u8 44, .int .u8 21, .int .u8 52, .int .u8 32, .int .u8 23, .int .u8 11, .int .u8 54, .int .u8 26, .int .u8 40, .int .u8 15, .int .u8 34, .int .u8 20, .int .u8 31, .int .u8 10, .int .u8 25, .int .u8 14, .int .u8 19, .int .u8 9, .int .u8 13, .int .u8 8, .int .u8 7, .int .u8 6])).modify 2 (Wq #[.int .u64 1, .int .u64 10, .int .u64 100, .int .u64 1000, .int .u64 10000, .int .u64 100000, .int .u64 1000000, .int .u64 10000000, .int .u64 100000000, .int .u64 1000000000, .int .u64 10000000000, .int .u64 100000000000, .int .u64 1000000000000, .int .u64 10000000000000, .int .u64 100000000000000, .int .u64 1000000000000000, .int .u64 10000000000000000, .int .u64 100000000000000000, .int .u64 1000000000000000000, .int .u64 10000000000000000000])).modify 3 (Wq #[.int .u8 0, .int .u8 1, .int .u8 28, .int .u8 2, .int .u8 29, .int .u8 14, .int .u8 24, .int .u8 3, .int .u8 30, .int .u8 22, .int .u8 20, .int .u8 15, .int .u8 25, .int .u8 17, .int .u8 4, .int .u8 8, .int .u8 31, .int .u8 27, .int .u8 13, .int .u8 23, .int .u8 21, .int .u8 19, .int .u8 16, .int .u8 7, .int .u8 26, .int .u8 12, .int .u8 18, .int .u8 6, .int .u8 11, .int .u8 5, .int .u8 10, .int .u8 9]) }
