/- slices.Delete over definitions, taken as a primitive, is sou. -/
import Derived.Test.YtacapiamkgkkjaaGreatDoorClQk
import Derived.Deep.RegionLaw
import Derived.Deep.Upon
import Derived.Shelf.Spec.SlicesInsertGrow
import Derived.Maps.AppendAt
set_option linter.all false
set_option maxRecDepth 1000000
set_option maxHeartbeats 4000000
namespace Go.Proofs.YtacapiamkgkkjaaGreatDoor.cl
open Go Go.AM Go.RowKit
def wR (cur:Array Value):Nat->List Value->Array Value
 |_,[]=>cur
 |o,v::r=>wR (cur.setIfInBounds o v) (o+1) r
def oU:∀(q:List Value) (o:Nat) (l:Array Value),(wR l o q).size=l.size
 |[],_,_=>rfl
 |v::r,o,l=>by rw[wR,oU r];simp
def qa:∀(q:List Value) (o:Nat) (l:Array Value),o+q.length<=l.size->(wR l o q).toList=l.toList.take o++q++l.toList.drop (o+q.length)
 |[],o,l,_=>by simp[wR]
 |v::r,o,l,h=>by rw[bA] at h;rw[wR,qa r (o+1) _ aH,Array.toList_setIfInBounds,dy,jX aH,Bo (aQ _),HF af];simp[kz,lQ,Nat.add_left_comm]
def oC {g:Nat} {e:TypeId}:∀(l:List Value) (o:Nat) {w:World} {cur:Array Value},w.heap[g]? =some (.cells cur e (0,0))->(w.setCells g o l).heap[g]? =some (.cells (wR cur o l) e (0,0))
 |[],_,_,_,h=>h
 |v::r,o,w,cur,h=>by refine oC r (o+1) (w:=w.setCell ⟨g,o,none⟩ v) (cur:=cur.setIfInBounds o v) ?_;show(w.heap.modify g _)[g]? =_;rw[zN,aC rfl,h];rfl
def nv (g:Nat):∀(l:List Value) (o:Nat) (w:World),(w.setCells g o l).tape=w.tape
 |[],_,_=>rfl
 |v::r,o,w=>nv g r (o+1) _
def jm (g:Nat):∀(l:List Value) (o:Nat) (w:World),(w.setCells g o l).heap.size=w.heap.size
 |[],_,_=>rfl
 |v::r,o,w=>(jm g r (o+1) _).trans (by show(w.heap.modify g _).size=_;simp)
def SE (w:World) (t e ty:TypeId) (z:Value) (G:P.underlying t=some (.slice e)) (H:∀w,(zeroValue e).run P w= .ok z w) (b o n c:Nat) (I:0<n) (Z:List Value) (B:(Builtin.zeroCells z.cells n).toList=Z) (q:∀v∈Z,v.oneCell'=true)
  (D:∀j,j<Z.length->(w.cell? ⟨b,o+j,none⟩).isSome=true) (F:∀j,j<Z.length->w.frozen? ⟨b,o+j,none⟩=false):
  (Builtin.clear_ #[t] ty #[.slice (some ⟨b,o,none⟩) n c]).run P w= .ok (.tuple #[]) (w.setCells b o Z):=by
 have l:=run_storeCells_cells (P:=P) b o Z 0 w (by simpa using D) (by simpa using F) q;simp only[mO] at l;obtain⟨m,rfl⟩:∃m,n=m+1:=⟨n-1,af⟩
 simp[Builtin.clear_,bz G,H,B,l]
def zC:List Value:=[.string ⟨#[]⟩, .int .i64 0, .string ⟨#[]⟩, .slice none 0 0, .slice none 0 0, .slice none 0 0]
def R2:Nat->List Value
 |0=>[]
 |n+1=>zC++R2 n
def RV:∀n,(R2 n).length=n *6
 |0=>rfl
 |n+1=>by rw[R2,bR,RV n,nX,lQ];rfl
def RW:∀n,∀v∈R2 n,v.oneCell'=true
 |0,v,h=>by cases h
 |n+1,v,h=>by
  rcases bf.1 h with h|h
  .simp only[zC,aJ,mG,qp] at h;rcases h with rfl|rfl|rfl|rfl|rfl|rfl<;>rfl
  .exact RW n v h
def afH (n:Nat):(Builtin.zeroCells zC.toArray n).toList=R2 n:=by
 have key:∀n,(List.range (n *6)).map (λi=>zC.toArray[i % 6]!)=R2 n:=by intro n;induction n with
  |zero=>rfl
  |succ n l=>
   rw[nX,lQ,xg,cE,fF,R2,<-l];congr 1;refine iK λi _=> ?_
   show zC.toArray[(6+i) % 6]! =_;rw[Nat.add_mod_left]
 rw[<-key n];unfold Builtin.zeroCells;simp[zC]
def ZF {l:Mu}:∀n,de l 6 (List.replicate n aa5) (R2 n)
 |0=>rfl
 |n+1=>by
  rw[uk];have nl:∀k,rep l (.dK k []) (.slice none 0 0):=λk=>by rw[rep];exact⟨none,0,rfl,aQ _,cO _, .inl rfl⟩
  exact⟨zC,R2 n,rfl,⟨⟨_,_,rfl,by rw[rep],_,_,rfl,by rw[rep],_,_,rfl,by rw[rep],_,_,rfl,nl _,_,_,rfl,nl _,_,_,rfl,nl _,rfl⟩,λu q=>RW 1 u (by simpa[R2] using q)⟩,rfl,ZF n⟩
def jk {w:Mu} {l:Nat}:∀(i:Nat) {xs:List (List AV)} {q:List Value},de w l xs q->de w l (xs.take i) (q.take (i *l))/\de w l (xs.drop i) (q.drop (i *l))
 |0,xs,q,h=>by rw[xk];exact⟨rfl,h⟩
 |i+1,[],q,h=>by
  have:q=[]:=h
  subst this;rw[List.take_nil,List.take_nil,List.drop_nil,List.drop_nil];exact⟨rfl,rfl⟩
 |i+1,x::xs,q,h=>by
  obtain⟨B,ws,rfl,D,z,F⟩:=h;obtain⟨a,b⟩:=jk i F;have e:(i+1) *l=B.length+i *l:=by rw[nX,z,lQ]
  rw[Bj,HC,e,HK,Bk];exact⟨⟨B,ws.take (i *l),rfl,D,z,a⟩,b⟩
def mW {z:Mu} {w:Nat}:∀{xs q:List (List AV)} {l ws:List Value},de z w xs l->de z w q ws->de z w (xs++q) (l++ws)
 |[],q,l,ws,h,k=>by
  have:l=[]:=h
  subst this;exact k
 |x::xs,q,l,ws,h,k=>by obtain⟨H,G,rfl,B,D,F⟩:=h;exact⟨H,G++ws,by rw[dz],B,D,mW F k⟩
def del72 {μ:Mu} {loc:Nat->Value} {w:World} {xs:List (List AV)} {i j:Nat} (hij:i<j) (hj:j<=xs.length) (lW:Hz μ w) (qF:mS w.heap.size (gJ False loc [10000]) μ loc w 10000 (.row 62 6 xs)):
  Calls P 72 #[loc 10000, .int .i64 i, .int .i64 j] w λe w'=>∃v μ' loc',e= .returned v/\eo False μ loc [10000] (.self ((xs.length-(j-i):Nat))) [(10000, .row 62 6 (xs.take i++xs.drop j++List.replicate (j-i) aa5))] w v μ' loc' w':=by
 obtain⟨vs,hown,hrc,KO⟩:=qF;have hvl:=cK hrc;have hv1:=jB hrc;rcases hown.2 with⟨_,h0⟩|⟨g,cap,cur,e1,_,hg,hcap,hmax,hsz,xB⟩
 .omega
 .obtain⟨hownB,Di⟩:=KO g (by rw[e1];exact fP.2 rfl);rw[e1];obtain⟨i0,hi0,KR,hz1,R1⟩:=info_parts (show(P.info? 62).map (λi=>(i.zero,i.size,i.bytes))=some (some (.agg zC.toArray),6,112) by kernel_rfl);have hcz:cur.size=cap *6:=hsz;have X6:∀k,k<xs.length *6->cur.toList[k]? =vs[k]? :=λk hk=>by
   rw[<-xB,lP,aC hk]
  have hcell:∀k u,vs[k]? =some u->w.drew.cell? ⟨g,k,none⟩=some u:=λk u hk=>by have hkl:=(bu.1 hk).1;have:=(X6 k af).trans hk;rw[zS] at this;show w.cell? _=_;unfold World.cell?;simp[hg,this]
  have hsome:∀k,k<cap *6->(w.drew.cell? ⟨g,k,none⟩).isSome=true:=λk hk=>by show(w.cell? _).isSome=true;unfold World.cell?;simp[hg,hcz,hk]
  have Tk:∀k,w.drew.frozen? ⟨g,k,none⟩=false:=λk=>by show w.frozen? _=false;unfold World.frozen?;simp[hg]
  obtain⟨news,hnews⟩:∃news,news=vs.drop (j *6):=⟨_,rfl⟩
  have hlen:news.length=(xs.length-j) *6:=by rw[hnews,iP,hvl,u6]
  obtain⟨A,hA,hsrc⟩:∃A:Addr,(if cap=j then some (⟨g,0,none⟩:Addr) else some ⟨g,j *6,none⟩)=some A/\Hid (∀t u,news[t]? =some u->w.drew.cell? (A.add t)=some u):=by
   by_cases h:cap=j
   .refine⟨⟨g,0,none⟩,by simp[h],λt u hu=> ?_⟩;have h0:news.length=0:=by rw[hlen];omega
    rw[ou.1 h0] at hu;simp at hu
   .refine⟨⟨g,j *6,none⟩,by simp[h],λt u hu=> ?_⟩;rw[hnews,pO] at hu;rw[iQ];exact hcell _ _ hu
  have s1:Hid (news.length=(xs.length-j) *6):=hlen;have s2:Hid (∀u∈news,u.oneCell'=true):=λu hu=>hv1 u (jw (by rw[<-hnews];exact hu))
  have s3:Hid (∀t,t<news.length->(w.drew.cell? ⟨g,0+i *6+t,none⟩).isSome=true/\w.drew.frozen? ⟨g,0+i *6+t,none⟩=false):=λt ht=>by rw[hlen] at ht;exact⟨hsome _ af,Tk _⟩
  obtain⟨W1,Ih⟩:∃W1,W1=w.drew.setCells g (0+i *6) news:=⟨_,rfl⟩
  have hg1:W1.heap[g]? =some (.cells (wR cur (0+i *6) news) 62 (0,0)):=by rw[Ih];exact oC _ _ hg
  have acS:∀k,k<cap *6->(W1.cell? ⟨g,k,none⟩).isSome=true:=λk hk=>by unfold World.cell?;simp[hg1,oU,hcz,hk]
  have acH:∀k,W1.frozen? ⟨g,k,none⟩=false:=λk=>by unfold World.frozen?;simp[hg1]
  have hcl:∀ty,(Builtin.clear_ #[23] ty #[.slice (some ⟨g,(i+(xs.length-j)) *6,none⟩) (xs.length-(i+(xs.length-j))) (cap-(i+(xs.length-j)))]).run P W1= .ok (.tuple #[]) (W1.setCells g ((i+(xs.length-j)) *6) (R2 (xs.length-(i+(xs.length-j))))):=λty=>SE W1 23 62 ty (.agg zC.toArray) Tryz.underlying23 Tryz.zeroValue62 g _ _ _ af _ (afH _) (RW _) (λt ht=>by rw[RV] at ht;exact acS _ af) (λt ht=>acH _)
  have X:Aside (W1.heap[g]? =some (.cells (wR cur (0+i *6) news) 62 (0,0))):=hg1;have hW:Hid (W1=w.drew.setCells g (0+i *6) news):=Ih;have hic:i<=cap:=af;have hjc:j<=cap:=af;generalize hn:xs.length=n at *;have fin:Aside (∀W2,W2=W1.setCells g ((i+(n-j)) *6) (R2 (n-(i+(n-j))))->∃μ' loc',eo False μ loc [10000] (.self ((n-(j-i):Nat))) [(10000, .row 62 6 (xs.take i++xs.drop j++List.replicate (j-i) aa5))] w (.slice (some ⟨g,0,none⟩) (i+(n-j)) cap) μ' loc' W2):=by
   rintro W2 rfl;have ez:n-(i+(n-j))=j-i:=af;have ek:(i+(n-j)) *6=i *6+news.length:=by rw[hlen,jE]
   have hzl:=RV (j-i);have hs1:(wR cur (0+i *6) news).size=cap *6:=(oU _ _ _).trans hcz;have t1:=qa news (0+i *6) cur (by rw[hlen];omega);have t2:=qa (R2 (j-i)) ((i+(n-j)) *6) (wR cur (0+i *6) news) (by rw[hs1,hzl];omega);have hl0:(cur.toList.take (i *6)).length=i *6:=by rw[dL,rW,hcz];omega
   have hvt:vs.take (i *6)=cur.toList.take (i *6):=by rw[<-xB,qj,r5 af]
   have t3:(wR cur (0+i *6) news).toList.take ((i+(n-j)) *6)=vs.take (i *6)++news:=by rw[t1,eY,ek,hvt];exact mK (by rw[bR,hl0])
   have t4:(wR (wR cur (0+i *6) news) ((i+(n-j)) *6) (R2 (j-i))).toList.take (n *6)=vs.take (i *6)++news++R2 (j-i):=by
    have hl:(vs.take (i *6)++news++R2 (j-i)).length=n *6:=by rw[bR,bR,hvt,hl0,hlen,hzl];omega
    rw[t2,t3];exact mK hl
   rw[ez];have hlx:(xs.take i++xs.drop j++List.replicate (j-i) aa5).length=n:=aH;have hg2:=oC (R2 (j-i)) ((i+(n-j)) *6) hg1;obtain⟨r1,_⟩:=jk i hrc;obtain⟨_,r2⟩:=jk j hrc;rw[<-hnews] at r2;refine⟨μ,loc,UH (w:=w) (cur:=cur) (n:=n) (us:=vs.take (i *6)++news++R2 (j-i)) lW e1 hcap hmax hsz hownB Di hg2 (by rw[oU,hs1,hcz]) t4 (by rw[<-t4,dL,rW,oU,hs1];omega) (λb hb hne=> ?_) ?_ ?_ ?_ ?_ hlx (mW (mW r1 r2) (ZF _)) (.inr ⟨_,_,_,_,rfl,e1,by omega,by congr 1;omega⟩)⟩
   .rw[Ih] at *;rw[World.heap_setCells_other _ _ _ _ (by rw[jm];exact hb) hne,World.heap_setCells_other _ _ _ _ (by exact hb) hne];rfl
   .rw[World.os_setCells,Ih,World.os_setCells];rfl
   .rw[nv,Ih,nv];rfl
   .rw[World.output_setCells,Ih,World.output_setCells];rfl
   .rw[jm,Ih,jm];exact aQ _
  clear Ih hg1 hsome Tk acS acH hcell X6 hnews hlen hown hrc KO xB hsz hcz hg hv1 hvl lW
  go_enter Tryz.func72,Tryz.ntmps72
  go_wp2_with fail
  go_region_law (refine step_append_room rfl (.tmp 22) (.tmp 25) 23 rfl 62 i0 6 Tryz.underlying23 hi0 hz1 g 0 i cap (by simp[Act.eval,Act.put]) A (n-j) (cap-j) news (by simp[Act.eval,Act.put]) s1.out hsrc.out s2.out af s3.out ?_;rw[<-hW.out])
  go_wp2
  go_ret
  obtain⟨μ',loc',h⟩:=fin.out _ rfl;exact⟨_,μ',loc',rfl,h⟩
end Go.Proofs.YtacapiamkgkkjaaGreatDoor.cl
set_option maxRecDepth 1000000
set_option maxHeartbeats 4000000
namespace Go.Proofs.YtacapiamkgkkjaaGreatDoor.cl
open Go Go.AM Go.RowKit Go.Lib
def KJ {v:Value} {H:Mu} {l:Nat->Value} {w G:World} {e O:Nat} {P:List (List AV)} {us:List Value}
  (D:Hz H w) (q:G.ownsRow 0 e O v P.length us) (hrc:de H O P us) (hv:v.ownBlock=(l 20000).ownBlock\/v.ownBlock=some w.heap.size) (z:∀g,(l 20000).ownBlock=some g->∀j,H g j=none)
  (hl:∀g,mb (l 20000) g↔(l 20000).ownBlock=some g) (B:∀b,b<w.heap.size->some b≠(l 20000).ownBlock->G.heap[b]? =w.heap[b]?)
  (hos:G.os=w.os) (ht:G.tape=w.tape) (L:G.output=w.output) (U:w.heap.size<=G.heap.size):
  ∃μ' N,eo False H l [20000] (.gy [.gy [.self 0, .lY, .self 20000]]) [(20000, .row e O P)] w v μ' N G:=by
 have hb:∀g,mb v g↔v.ownBlock=some g:=λg=>by
  rcases q.2 with⟨h,_⟩|⟨g',Q,R,h,_⟩
  .rw[h];exact⟨λh=>h.elim (λh=>by cases h) (λ⟨_,h,_⟩=>by cases h),λh=>by cases h⟩
  .rw[h];exact fP
 refine⟨H,λi=>if i=20000 then v else l i,⟨Mu.ext.toL ⟨Mu.le.refl _,λ_ _ _ h=> .inl h⟩,λb j x hx=> ?_, .inr (.inr (.inl ⟨_,rfl,?_,rfl⟩)),λid o h=> ?_,λi j oi oj hi hj hij=>absurd ((ry hi).trans (ry hj).symm) hij,λb F hn=>B b F λe=>hn ⟨20000,l 20000,by simp[gJ],(hl b).2 e.symm⟩,λid I S h3=> ?_,hos,ht,L,U,λh=>h.elim⟩⟩
 .have h:=D b j x hx;have F:=q9 h;rw[iU (B b F λe=>by rw[z b e.symm j] at hx;cases hx) j];exact h
 .show v=fO _;simp only[gj];rcases q.2 with⟨h,_⟩|⟨g',Q,R,h,_⟩
  .rw[h];rfl
  .rw[h];rfl
 .have V:=ry h;subst V;have ho:Ob.row e O P=o:=by simpa[find] using h
  subst ho;refine⟨us,by simpa using q,hrc,λg K=> ?_⟩;have K:v.ownBlock=some g:=(hb g).1 (by simpa using K);rcases hv with I|I
  .have S:(l 20000).ownBlock=some g:=I▸K;exact⟨.inr (.inr ⟨l 20000,by simp[gJ],(hl g).2 S⟩),z g S⟩
  .have:g=w.heap.size:=by rw[I] at K;exact(fc K).symm
   subst this;refine⟨.inl (aQ _),λj=> ?_⟩;cases hm:H w.heap.size j with
   |none=>rfl
   |some x=>exact absurd (q9 (D _ _ _ hm)) (qu _)
 .have:id=20000:=by simpa using I
  omega
def CI (w:World) (dT sT ty q:TypeId) (K b o l D:Nat) (a:Addr) (z G:Nat) (B:List Value)
  (V:P.underlying dT=some (.slice q)) (L:(P.info? q).map (·.size)=some K) (U:B.length=Nat.min z l *K)
  (F:∀j v,B[j]? =some v->w.cell? (a.add j)=some v) (O:∀j,j<B.length->(w.cell? ⟨b,o+j,none⟩).isSome=true) (Q:∀j,j<B.length->w.frozen? ⟨b,o+j,none⟩=false) (N:∀v∈B,v.oneCell'=true):
  (Builtin.copy_ #[dT,sT] ty #[.slice (some ⟨b,o,none⟩) l D, .slice (some a) z G]).run P w= .ok (goInt (Nat.min z l:Nat)) (w.setCells b o B):=by
 have S:=xb (P:=P) w a B F;have I:=run_storeCells_cells (P:=P) b o B 0 w (by simpa using O) (by simpa using Q) N;cases H:P.info? q with
 |none=>simp[H] at L
 |some i=>
  have R:i.size=K:=by simpa[H] using L
  simp[Builtin.copy_,bz V,Builtin.lenOf,Builtin.firstCells,sizeOf,typeInfo,H,R,<-U,S,I]
theorem mOvr {M:Array Value->Type} (a:Option Addr) (x y:Nat) (b:Option Addr) (z v:Nat) (f:∀a x y b z v,M #[.slice a x y, .slice b z v]) (g:∀x,M x):Extern.SlicesOverlaps.overlaps.match_4 M #[.slice a x y, .slice b z v] f g=f a x y b z v:=rfl
def G6 (w:World) (G tR e:TypeId) (V:P.underlying G=some (.slice e)) (size:Nat) (hz:∀w,(Go.sizeOf e).run P w= .ok size w)
  (a b:Addr) (I ca K cb:Nat) (D:a.block≠b.block) (tA:TypeId) (H:Nat) (Q:w.shape? a.block=some (tA,H)) (hkA:H≠0) (l:Array Value) (tB:TypeId) (S:w.heap[b.block]? =some (.cells l tB (0,0))) (U:l.size≠0):
  (Extern.SlicesOverlaps.overlaps #[G,G] #[tR] #[.slice (some a) I ca, .slice (some b) K cb]).run P w= .ok (.bool false) w:=by
 have O:(a.block !=b.block)=true:=by simpa using D
 have B:(a.block==b.block)=false:=by simpa using D
 have F:w.shape? b.block=some (tB,l.size):=by unfold World.shape?;rw[S]
 have q:∀k p,w.frozen? ⟨b.block,k,p⟩=false:=λk p=>by unfold World.frozen?;simp[S]
 have z:w.frozen? b=false:=q _ _
 unfold Extern.SlicesOverlaps.overlaps;rw[mOvr]
 by_cases R:I=0\/K=0\/size=0
 .simp[bz V,hz,R]
 .obtain⟨k,U⟩:∃k,l.size=k+1:=⟨l.size-1,af⟩
  rw[U] at F;obtain⟨m,rfl⟩:∃m,H=m+1:=⟨H-1,af⟩
  cases L:w.frozen? a<;>cases N:w.frozen? { block:=a.block,off:=m+1 }<;>
   simp[bz V,hz,R,O,B,frozen,noView,viewAt,mayBeOne,stringish,shape,Sem.run,Q,F,L,N,q,z]
def zT:List Value:=[.string ⟨#[]⟩, .slice none 0 0, .slice none 0 0]
def aat {μ:Mu} {loc:Nat->Value} {w:World} {xs:List (List AV)} {y:List AV} (hbig:(xs.length+1) *64<=140737488355328) (lW:Hz μ w) (qF:mS w.heap.size (gJ False loc [20000]) μ loc w 20000 (.row 66 3 xs)) {u:Value} (hu:rep μ (.dK 3 [y]) u):
  Calls P 30 #[loc 20000, .int .i64 xs.length,u] w λe w'=>∃v μ' loc',e= .returned v/\eo False μ loc [20000] (.gy [.gy [.self 0, .lY, .self 20000]]) [(20000, .row 66 3 (xs++[y]))] w v μ' loc' w':=by
 obtain⟨vs,hown,hrc,KO⟩:=qF;rw[rep.eq_def] at hu;dsimp only at hu;obtain⟨A,c,rfl,hc1,RY,hA⟩:=hu;obtain⟨a,rfl⟩:∃a,A=some a:=by
  rcases hA with h|⟨b,off,e,_⟩
  .cases h
  .exact⟨_,e⟩
 obtain⟨us,wD,h1,hcell⟩:=wj lW hA;have xC:us.length=1 *3:=cK wD;obtain⟨i0,hi,KR,hz1,R1⟩:=info_parts (show(P.info? 66).map (λi=>(i.zero,i.size,i.bytes))=some (some (.agg zT.toArray),3,64) by kernel_rfl);have fin:∀v' w',w'.ownsRow 0 66 3 v' (xs.length+1) (vs++us)->w.grownBy w' (loc 20000).ownBlock->(v'.ownBlock=(loc 20000).ownBlock\/v'.ownBlock=some w.heap.size)->∃μ' loc',eo False μ loc [20000] (.gy [.gy [.self 0, .lY, .self 20000]]) [(20000, .row 66 3 (xs++[y]))] w v' μ' loc' w':=λv' w' g1 g2 g3=>by
  refine KJ lW (us:=vs++us) (by rw[bR];exact g1) (mW hrc wD) g3 (λg hg=> ?_) (λg=> ?_) g2.block g2.os g2.tape g2.output g2.size
  .rcases hown.2 with⟨h,_⟩|⟨g',cap,cur,h,_⟩
   .rw[h] at hg;cases hg
   .exact(KO g (by rw[h] at hg⊢;exact fP.2 hg)).2
  .rcases hown.2 with⟨h,_⟩|⟨g',cap,cur,h,_⟩
   .rw[h];exact⟨λh=>h.elim (λh=>by cases h) (λ⟨_,h,_⟩=>by cases h),λh=>by cases h⟩
   .rw[h];exact fP
 have X:Aside (∀v' w',w'.ownsRow 0 66 3 v' (xs.length+1) (vs++us)->w.grownBy w' (loc 20000).ownBlock->(v'.ownBlock=(loc 20000).ownBlock\/v'.ownBlock=some w.heap.size)->∃μ' loc',eo False μ loc [20000] (.gy [.gy [.self 0, .lY, .self 20000]]) [(20000, .row 66 3 (xs++[y]))] w v' μ' loc' w'):=fin;clear fin KO lW hA;rcases hown.2 with⟨h,h0⟩|⟨g,cap,cur,h,_,hg,hcap,hmax,hsz,xB⟩
 .rw[h] at hown X⊢;rw[h0] at hown hbig X⊢
  go_enter Tryz.func30,Tryz.ntmps30
  go_wp2_with (at_builtin;refine wpList_append_own_at _ rfl _ _ 38 rfl 0 66 i0 (.agg zT.toArray) 3 64 Tryz.underlying38 hi KR hz1 R1 rfl (by decide) (.slice none 0 0) 0 vs rfl hown a 1 c us rfl xC hcell h1 (by simp only[maxLen];omega) af (cO _) ?_)
  intro v' w' g1 g2 _ g3
  go_wp2
  go_ret
  obtain⟨μ',loc',r⟩:=X.out v' w' g1 g2 g3;exact⟨_,μ',loc',rfl,r⟩
 .rw[h] at hown X⊢;by_cases hcn:cap=xs.length
  .subst hcn
   go_enter Tryz.func30,Tryz.ntmps30
   go_wp2_with (at_builtin;refine wpList_append_own_at _ rfl _ _ 38 rfl 0 66 i0 (.agg zT.toArray) 3 64 Tryz.underlying38 hi KR hz1 R1 rfl (by decide) (.slice (some ⟨g,0,none⟩) xs.length xs.length) xs.length vs rfl hown a 1 c us rfl xC hcell h1 (by simp only[maxLen];omega) af (cO _) ?_)
   intro v' w' g1 g2 _ g3
   go_wp2
   go_ret
   obtain⟨μ',loc',r⟩:=X.out v' w' g1 g2 g3;exact⟨_,μ',loc',rfl,r⟩
  .go_enter Tryz.func30,Tryz.ntmps30
   go_wp2_with (at_builtin;refine wpList_append_own_at _ rfl _ _ 38 rfl 0 66 i0 (.agg zT.toArray) 3 64 Tryz.underlying38 hi KR hz1 R1 rfl (by decide) (.slice (some ⟨g,0,none⟩) xs.length cap) xs.length vs rfl hown a 1 c us rfl xC hcell h1 (by simp only[maxLen];omega) af (cO _) ?_)
   intro v' w' g1 g2 _ g3
   go_wp2
   go_ret
   obtain⟨μ',loc',r⟩:=X.out v' w' g1 g2 g3;exact⟨_,μ',loc',rfl,r⟩
end Go.Proofs.YtacapiamkgkkjaaGreatDoor.cl
set_option maxRecDepth 1000000
set_option maxHeartbeats 4000000
namespace Go.Proofs.YtacapiamkgkkjaaGreatDoor.cl
open Go Go.AM Go.RowKit Go.Lib
def L0 {w:World} {b o:Nat} {u:Value} (h:w.cell? ⟨b,o,none⟩=some u):∃t k,w.shape? b=some (t,k)/\k≠0:=by
 unfold World.cell? at h;unfold World.shape?;split at h
 .rename_i c e z l;rw[l];refine⟨_,_,rfl,λq=> ?_⟩;simp only at h;rw[EI af] at h;cases h
 .cases h
def Tu {μ:Mu} {loc:Nat->Value} {w:World} {xs:List (List AV)} {y:List AV} {i g cap:Nat} (hi:i<xs.length) (hbig:(xs.length+1) *64<=140737488355328) (lW:Hz μ w) (qF:mS w.heap.size (gJ False loc [20000]) μ loc w 20000 (.row 66 3 xs)) {u:Value} (hu:rep μ (.dK 3 [y]) u) (e1:loc 20000= .slice (some ⟨g,0,none⟩) xs.length cap) (hroom:xs.length+1<=cap):
  Calls P 30 #[loc 20000, .int .i64 i,u] w λe w'=>∃v μ' loc',e= .returned v/\eo False μ loc [20000] (.gy [.gy [.self 0, .lY, .self 20000]]) [(20000, .row 66 3 (xs.take i++[y]++xs.drop i))] w v μ' loc' w':=by
 obtain⟨vs,hown,hrc,KO⟩:=qF;have hv1:=jB hrc;have hvl:=cK hrc;rcases hown.2 with⟨h,h0⟩|⟨g',cap',cur,h,_,hg,hcap,hmax,hsz,xB⟩
 .omega
 rw[e1] at h;cases h;rw[rep.eq_def] at hu;dsimp only at hu;obtain⟨A,c,rfl,hc1,RY,hA0⟩:=hu;obtain⟨b,off,rfl,hA⟩:∃b off,A=some ⟨b,off,none⟩/\kV μ 3 b [y] off:=by
  rcases hA0 with h|h
  .cases h
  .exact h
 obtain⟨us,wD,h1,hcell⟩:=wj (sz:=3) (xs:=[y]) (a:=⟨b,off,none⟩) lW (.inr ⟨b,off,rfl,hA⟩);have xC:us.length=1 *3:=cK wD;have acM:∀j,μ g j=none:=(KO g (by rw[e1];exact fP.2 rfl)).2;have hne:b≠g:=λe=>by obtain⟨⟨ws,_,_,w3,w4⟩,_⟩:=hA;have:=w4 0 ws[0] (aM af);rw[e,acM] at this;cases this
 obtain⟨tA,kA,hsa,hkA⟩:=L0 (by
  have:=hcell 0 us[0] (aM af)
  rw[iQ] at this;exact this)
 obtain⟨i0,hi0,KR,hz1,R1⟩:=info_parts (show(P.info? 66).map (λi=>(i.zero,i.size,i.bytes))=some (some (.agg zT.toArray),3,64) by kernel_rfl);have acT:(P.info? 66).map (·.size)=some 3:=by rw[hi0];simp[hz1]
 have hcz:cur.size≠0:=by rw[hsz];omega
 have u38:∀w,Sem.run P (underlying 38) w= .ok (TypeDesc.slice 66) w:=bz Tryz.underlying38;have hzo:∀w,(Go.sizeOf 66).run P w= .ok 3 w:=λw=>by simp[sizeOf,typeInfo,hi0,hz1]
 have hov:∀lb cb,(callFunc 76 #[.slice (some ⟨b,off,none⟩) 1 c, .slice (some ⟨g,(i+1) *3,none⟩) lb cb]).run P w= .ok (.value (.bool false)) w:=λlb cb=>by
  rw[run_callFunc_extern Tryz.func76 (by kernel_rfl) (by kernel_rfl) (by kernel_rfl) (e:=Extern.SlicesOverlaps.overlaps #[38,38] #[4]) (by kernel_rfl),
   G6 w 38 4 66 Tryz.underlying38 3 hzo ⟨b,off,none⟩ ⟨g,(i+1) *3,none⟩ 1 c lb cb hne tA kA hsa hkA cur 66 hg hcz]
  rfl
 rw[e1];generalize hn:xs.length=n at *;have hw1:IntKind.i64.wrap ((i:Int)+1)=(i:Int)+1:=by rw[IntKind.wrap_i64];omega
 have hw2:IntKind.i64.wrap ((n:Int)+1)=(n:Int)+1:=by rw[IntKind.wrap_i64];omega
 have htn:((i:Int)+1).toNat=i+1:=af;have htn2:((n:Int)+1).toNat=n+1:=af;have hb1:(0:Int)<=(i:Int)+1:=af;have hin:i<=n:=af;have acJ:i<=n+1:=af;have hb3:(i:Int)<=(n:Int)+1:=af;have hb2:¬(cap=i+1):=af;have hb4:¬(cap=i):=af;have hb5:¬((i:Int)=(n:Int)):=af;obtain⟨tail,Dj⟩:∃tail,tail=vs.drop (i *3):=⟨_,rfl⟩
 have hlen:tail.length=(n-i) *3:=by rw[Dj,iP,hvl,u6]
 have V5:cur.size=cap *3:=hsz;have GD:∀k u,vs[k]? =some u->w.drew.cell? ⟨g,k,none⟩=some u:=λk u hk=>by
  have hkl:=(bu.1 hk).1;have h2:cur.toList[k]? =some u:=by rw[<-hk,<-xB,lP,aC af]
  rw[zS] at h2;show w.cell? _=_;unfold World.cell?;simp[hg,h2]
 have hsome:∀k,k<cap *3->(w.drew.cell? ⟨g,k,none⟩).isSome=true:=λk hk=>by show(w.cell? _).isSome=true;unfold World.cell?;simp[hg,V5,hk]
 have Tk:∀k,w.drew.frozen? ⟨g,k,none⟩=false:=λk=>by show w.frozen? _=false;unfold World.frozen?;simp[hg]
 have hcp1:∀ty dc sc,(Builtin.copy_ #[38,38] ty #[.slice (some ⟨g,(i+1) *3,none⟩) (n-i) dc, .slice (some ⟨g,i *3,none⟩) (n+1-i) sc]).run P w.drew= .ok (goInt (Nat.min (n+1-i) (n-i):Nat)) (w.drew.setCells g ((i+1) *3) tail):=λty dc sc=>
  CI w.drew 38 38 ty 66 3 g ((i+1) *3) (n-i) dc ⟨g,i *3,none⟩ (n+1-i) sc tail Tryz.underlying38 acT (by rw[hlen,show Nat.min (n+1-i) (n-i)=n-i by simp only[Nat.min_def];split<;>omega])
   (λj v hj=>by rw[iQ];exact GD _ _ (by rwa[Dj,pO] at hj))
   (λj hj=>hsome _ af) (λj _=>Tk _) (λv hv=>hv1 v (jw (by rw[<-Dj];exact hv)))
 obtain⟨W1,Ih⟩:∃W1,W1=w.drew.setCells g ((i+1) *3) tail:=⟨_,rfl⟩
 have hg1:W1.heap[g]? =some (.cells (wR cur ((i+1) *3) tail) 66 (0,0)):=by rw[Ih];exact oC _ _ hg
 have hcp2:∀(W:World),(∀x,W.cell? x=W1.cell? x)->(∀x,W.frozen? x=W1.frozen? x)->∀ty dc,(Builtin.copy_ #[38,38] ty #[.slice (some ⟨g,i *3,none⟩) (n+1-i) dc, .slice (some ⟨b,off,none⟩) 1 c]).run P W= .ok (goInt (Nat.min 1 (n+1-i):Nat)) (W.setCells g (i *3) us):=λW hWc hWf ty dc=>
  CI W 38 38 ty 66 3 g (i *3) (n+1-i) dc ⟨b,off,none⟩ 1 c us Tryz.underlying38 acT (by rw[xC,show Nat.min 1 (n+1-i)=1 by simp only[Nat.min_def];split<;>omega])
   (λj v hj=>by
    rw[hWc,Ih,iQ,World.cell?_setCells_out g _ _ _ _ (λh _=>absurd h hne),<-iQ]
    exact hcell j v hj)
   (λj hj=>by
    rw[hWc];unfold World.cell?
    simp[hg1,oU,V5];omega) (λj hj=>by
    rw[hWf];unfold World.frozen?
    simp[hg1]) h1
 rw[<-Ih] at hcp1;have fin:∀W2,W2=W1.setCells g (i *3) us->∃μ' loc',eo False μ loc [20000] (.gy [.gy [.self 0, .lY, .self 20000]]) [(20000, .row 66 3 (xs.take i++[y]++xs.drop i))] w (.slice (some ⟨g,0,none⟩) (n+1) cap) μ' loc' W2:=by
  rintro W2 rfl;have hs1:(wR cur ((i+1) *3) tail).size=cap *3:=(oU _ _ _).trans V5;have t1:=qa tail ((i+1) *3) cur (by rw[hlen];omega);have t2:=qa us (i *3) (wR cur ((i+1) *3) tail) (by rw[hs1,xC];omega);have hl0:(cur.toList.take ((i+1) *3)).length=(i+1) *3:=by rw[dL,rW,V5];omega
  have hvt:cur.toList.take (i *3)=vs.take (i *3):=by rw[<-xB,qj,r5 af]
  have Tq:(vs.take (i *3)).length=i *3:=by rw[dL,hvl];omega
  have ei:(i+1) *3=i *3+3:=af;have t3:(wR (wR cur ((i+1) *3) tail) (i *3) us).toList.take ((n+1) *3)=vs.take (i *3)++us++tail:=by
   have ta:∀R,(cur.toList.take ((i+1) *3)++tail++R).take (i *3)=vs.take (i *3):=λR=>by rw[dz,vp (by rw[hl0];omega),qj,r5 af,hvt]
   have tb:∀R,(cur.toList.take ((i+1) *3)++tail++R).drop (i *3+us.length)=tail++R:=λR=>by rw[dz,show i *3+us.length=(cur.toList.take ((i+1) *3)).length by rw[hl0,xC];omega,zK]
   rw[t2,t1,ta,tb,<-dz];exact mK (by rw[bR,bR,Tq,xC,hlen];omega)
  obtain⟨r1,r2⟩:=jk i hrc;rw[<-Dj] at r2;refine KJ (us:=vs.take (i *3)++us++tail) lW ⟨?_, .inr ⟨g,cap,_,?_,cO _,oC us (i *3) hg1,?_,hmax,by rw[oU,hs1],?_⟩⟩ (mW (mW r1 wD) r2) (.inl (by rw[e1];rfl)) (λg' hg'=> ?_) (λg'=>by rw[e1];exact fP) (λb' hb' hb2=> ?_) ?_ ?_ ?_ ?_
  .have:(xs.take i++[y]++xs.drop i).length=n+1:=aH
   rw[this,bR,bR,Tq,xC,hlen];omega
  .have:(xs.take i++[y]++xs.drop i).length=n+1:=aH
   rw[this]
  .have:(xs.take i++[y]++xs.drop i).length=n+1:=aH
   rw[this];exact hroom
  .have:(xs.take i++[y]++xs.drop i).length=n+1:=aH
   rw[this];exact t3
  .rw[e1] at hg';cases hg';exact acM
  .have hb3:b'≠g:=λe=>hb2 (by rw[e1,e];rfl)
   rw[World.heap_setCells_other _ _ _ _ (by rw[Ih,jm];exact hb') hb3,Ih,World.heap_setCells_other _ _ _ _ (by exact hb') hb3];rfl
  .rw[World.os_setCells,Ih,World.os_setCells];rfl
  .rw[nv,Ih,nv];rfl
  .rw[World.output_setCells,Ih,World.output_setCells];rfl
  .rw[jm,Ih,jm];exact aQ _
 have X:Aside (∀W2,W2=W1.setCells g (i *3) us->∃μ' loc',eo False μ loc [20000] (.gy [.gy [.self 0, .lY, .self 20000]]) [(20000, .row 66 3 (xs.take i++[y]++xs.drop i))] w (.slice (some ⟨g,0,none⟩) (n+1) cap) μ' loc' W2):=fin;clear fin Ih hg1 hsome Tk GD hlen hown hrc KO xB hsz hcz V5 hv1 hvl lW
 go_enter Tryz.func30,Tryz.ntmps30
 go_wp2_with (simp only[hov])
 go_region_law (refine step_copy_runI rfl _ _ 38 38 rfl _ _ (by simp[Act.eval,Act.put]) (by simp[Act.eval,Act.put]) (hcp1 _ _ _) ?_)
 go_wp2_with (at_builtin;refine wpList_copy_runI _ rfl _ _ 38 38 rfl _ _ rfl rfl (hcp2 _ (λ_=>rfl) (λ_=>rfl) _ _) ?_)
 go_ret
 obtain⟨μ',loc',h⟩:=X.out _ rfl;exact⟨_,μ',loc',rfl,h⟩
end Go.Proofs.YtacapiamkgkkjaaGreatDoor.cl
set_option maxRecDepth 1000000
set_option maxHeartbeats 4000000
namespace Go.Proofs.YtacapiamkgkkjaaGreatDoor.cl
open Go Go.AM Go.RowKit Go.Lib
def Wa {μ:Mu} {loc:Nat->Value} {w:World} {xs:List (List AV)} {y:List AV} {i g cap:Nat} (hi:i<xs.length) (hbig:(xs.length+1) *64<=140737488355328) (lW:Hz μ w) (qF:mS w.heap.size (gJ False loc [20000]) μ loc w 20000 (.row 66 3 xs)) {u:Value} (hu:rep μ (.dK 3 [y]) u) (e1:loc 20000= .slice (some ⟨g,0,none⟩) xs.length cap) (hroom:cap<xs.length+1):
  Calls P 30 #[loc 20000, .int .i64 i,u] w λe w'=>∃v μ' loc',e= .returned v/\eo False μ loc [20000] (.gy [.gy [.self 0, .lY, .self 20000]]) [(20000, .row 66 3 (xs.take i++[y]++xs.drop i))] w v μ' loc' w':=by
 obtain⟨vs,hown,hrc,KO⟩:=qF;have hv1:=jB hrc;have hvl:=cK hrc;rcases hown.2 with⟨h,h0⟩|⟨g',cap',cur,h,_,hg,hcap,hmax,hsz,xB⟩
 .omega
 rw[e1] at h;cases h;rw[rep.eq_def] at hu;dsimp only at hu;obtain⟨A,c,rfl,hc1,RY,hA0⟩:=hu;obtain⟨b,off,rfl,hA⟩:∃b off,A=some ⟨b,off,none⟩/\kV μ 3 b [y] off:=by
  rcases hA0 with h|h
  .cases h
  .exact h
 obtain⟨us,wD,h1,hcell⟩:=wj (sz:=3) (xs:=[y]) (a:=⟨b,off,none⟩) lW (.inr ⟨b,off,rfl,hA⟩);have xC:us.length=1 *3:=cK wD;have acM:∀j,μ g j=none:=(KO g (by rw[e1];exact fP.2 rfl)).2;have hne:b≠g:=λe=>by obtain⟨⟨ws,_,_,w3,w4⟩,_⟩:=hA;have:=w4 0 ws[0] (aM af);rw[e,acM] at this;cases this
 obtain⟨tA,kA,hsa,hkA⟩:=L0 (by
  have:=hcell 0 us[0] (aM af)
  rw[iQ] at this;exact this)
 obtain⟨i0,hi0,KR,hz1,R1⟩:=info_parts (show(P.info? 66).map (λi=>(i.zero,i.size,i.bytes))=some (some (.agg zT.toArray),3,64) by kernel_rfl);have acT:(P.info? 66).map (·.size)=some 3:=by rw[hi0];simp[hz1]
 have u38:∀w,Sem.run P (underlying 38) w= .ok (TypeDesc.slice 66) w:=bz Tryz.underlying38;have hbw:g<w.heap.size:=(gm.1 hg).1;have hvw:b<w.heap.size:=by have:=hcell 0 us[0] (aM af);rw[iQ] at this;exact block_lt_of_cell this
 rw[e1];generalize hn:xs.length=n at *;have hcn:cap=n:=af;subst hcn;obtain⟨tail,Dj⟩:∃tail,tail=vs.drop (i *3):=⟨_,rfl⟩
 have hlen:tail.length=(cap-i) *3:=by rw[Dj,iP,hvl,u6]
 have V5:cur.size=cap *3:=hsz;have GD:∀k u,vs[k]? =some u->w.cell? ⟨g,k,none⟩=some u:=λk u hk=>by
  have hkl:=(bu.1 hk).1;have h2:cur.toList[k]? =some u:=by rw[<-hk,<-xB,lP,aC af]
  rw[zS] at h2;unfold World.cell?;simp[hg,h2]
 have hold:(Builtin.firstCells i0.size i (.slice (some ⟨g,0,none⟩) i cap)).run P w.drew= .ok (vs.take (i *3)).toArray w.drew:=by
  rw[hz1]
  exact run_firstCells_some w.drew 3 i ⟨g,0,none⟩ i cap (vs.take (i *3)) (by rw[dL,hvl];omega) (λj v hj=>by
   rw[iQ,eY];rw[lP] at hj;split at hj
   .exact GD j v hj
   .cases hj)
 have hkk:(cap:Int)+1-(i:Int)=((cap+1-i:Nat):Int):=af;have hik:i+(cap+1-i)=cap+1:=af;have hrz:∀ty,(Builtin.append_ #[38,3] ty #[.slice (some ⟨g,0,none⟩) i cap, .int .i64 ((cap:Int)+1-(i:Int))]).run P w=
   .ok (.slice (some ⟨w.heap.size,0,none⟩) (cap+1) (grownCap w (cap+1) cap 66)) (w.drew.alloc (.cells ((vs.take (i *3)).toArray++Builtin.zeroCells (Value.agg zT.toArray).cells (cap+1-i)++Builtin.zeroCells (Value.agg zT.toArray).cells (grownCap w (cap+1) cap 66-(cap+1))) 66)):=λty=>by
  have h:=Lib.run_append_grow_zeros w 38 3 ty 66 i0 _ .i64 .i64 Tryz.underlying38 Tryz.underlying3 hi0 KR (some ⟨g,0,none⟩) i cap (vs.take (i *3)) hold (cap+1-i) af af af af (by rw[R1];omega) (by rw[R1,hik];exact growslice_fits af hbig);rw[hik] at h;rw[hkk];exact h
 obtain⟨G,hG⟩:∃G,G=grownCap w (cap+1) cap 66:=⟨_,rfl⟩
 obtain⟨ROW,hROW⟩:∃ROW:Array Value,ROW=(vs.take (i *3)).toArray++Builtin.zeroCells (Value.agg zT.toArray).cells (cap+1-i)++Builtin.zeroCells (Value.agg zT.toArray).cells (G-(cap+1)):=⟨_,rfl⟩
 rw[<-hG] at hrz;rw[<-hROW] at hrz;have hGn:cap+1<=G:=by rw[hG];exact grownCap_ge w _ _ _
 have hG63:G<=maxLen:=by rw[hG];exact grownCap_le_maxLen w (cap+1) cap 66 (by unfold maxLen;omega)
 have Tq:(vs.take (i *3)).length=i *3:=by rw[dL,hvl];omega
 have hRs:ROW.size=G *3:=by rw[hROW];simp[Builtin.zeroCells,Value.cells,Tq,zT];omega
 have hRt:ROW.toList.take (i *3)=vs.take (i *3):=by rw[hROW,gY,gY,dz,vp (by simp[hvl];omega)];simp[qj]
 have hgN:(w.alloc (.cells ROW 66)).heap[w.heap.size]? =some (.cells ROW 66 (0,0)):=by show(w.heap.push _)[w.heap.size]? =_;simp
 obtain⟨W1,Ih⟩:∃W1,W1=w.drew.alloc (.cells ROW 66):=⟨_,rfl⟩
 rw[<-Ih] at hrz;have hN:∀j,j<G *3->(W1.cell? ⟨w.heap.size,j,none⟩).isSome=true:=λj hj=>by rw[Ih,World.cell?_alloc_at (w:=w.drew) ROW _ w.heap.size j rfl,xe af];rfl
 have hNf:∀j,W1.frozen? ⟨w.heap.size,j,none⟩=false:=λj=>by rw[Ih];exact World.frozen?_alloc_at (w:=w.drew) ROW _ w.heap.size j rfl
 have hOb:∀j v,w.cell? ⟨g,j,none⟩=some v->W1.cell? ⟨g,j,none⟩=some v:=λj v h=>by rw[Ih,World.cell?_alloc_past (w:=w.drew) _ g j hbw];exact h
 have hOv:∀j v,w.cell? ⟨b,j,none⟩=some v->W1.cell? ⟨b,j,none⟩=some v:=λj v h=>by rw[Ih,World.cell?_alloc_past (w:=w.drew) _ b j hvw];exact h
 have hcpA:∀(W:World),(∀x,W.cell? x=W1.cell? x)->(∀x,W.frozen? x=W1.frozen? x)->∀ty dc,(Builtin.copy_ #[38,38] ty #[.slice (some ⟨w.heap.size,i *3,none⟩) (cap+1-i) dc, .slice (some ⟨b,off,none⟩) 1 c]).run P W= .ok (goInt (Nat.min 1 (cap+1-i):Nat)) (W.setCells w.heap.size (i *3) us):=λW hWc hWf ty dc=>
  CI W 38 38 ty 66 3 w.heap.size (i *3) (cap+1-i) dc ⟨b,off,none⟩ 1 c us Tryz.underlying38 acT (by rw[xC,show Nat.min 1 (cap+1-i)=1 by simp only[Nat.min_def];split<;>omega])
   (λj v hj=>by
    have:=hcell j v hj;rw[iQ] at this⊢
    rw[hWc];exact hOv _ v this)
   (λj hj=>by rw[hWc];exact hN _ af) (λj hj=>by rw[hWf];exact hNf _) h1
 have hbN:g≠w.heap.size:=af;have hcpB:∀(W:World),(∀x,W.cell? x=(W1.setCells w.heap.size (i *3) us).cell? x)->(∀x,W.frozen? x=(W1.setCells w.heap.size (i *3) us).frozen? x)->∀ty dc sc,(Builtin.copy_ #[38,38] ty #[.slice (some ⟨w.heap.size,(i+1) *3,none⟩) (cap-i) dc, .slice (some ⟨g,i *3,none⟩) (cap-i) sc]).run P W= .ok (goInt (Nat.min (cap-i) (cap-i):Nat)) (W.setCells w.heap.size ((i+1) *3) tail):=λW hWc hWf ty dc sc=>
  CI W 38 38 ty 66 3 w.heap.size ((i+1) *3) (cap-i) dc ⟨g,i *3,none⟩ (cap-i) sc tail Tryz.underlying38 acT (by rw[hlen,show Nat.min (cap-i) (cap-i)=cap-i by simp only[Nat.min_def];split<;>omega])
   (λj v hj=>by
    rw[iQ,hWc,World.cell?_setCells_out _ _ _ _ _ (λh _=>absurd h hbN)]
    exact hOb _ v (GD _ v (by rwa[Dj,pO] at hj)))
   (λj hj=>by rw[hWc];exact isSome_setCells _ _ _ _ (λt ht=>hN _ af) _ (hN _ af))
   (λj hj=>by rw[hWf,World.frozen?_setCells];exact hNf _) (λv hv=>hv1 v (jw (by rw[<-Dj];exact hv)))
 have fin:∀W3,W3=(((w.alloc (.cells ROW 66)).drew.setCells w.heap.size (i *3) us).drew).setCells w.heap.size ((i+1) *3) tail->∃μ' loc',eo False μ loc [20000] (.gy [.gy [.self 0, .lY, .self 20000]]) [(20000, .row 66 3 (xs.take i++[y]++xs.drop i))] w (.slice (some ⟨w.heap.size,0,none⟩) (cap+1) G) μ' loc' W3:=by
  rintro W3 rfl;have hg1:=oC us (i *3) (w:=(w.alloc (.cells ROW 66)).drew) hgN;have hs1:(wR ROW (i *3) us).size=G *3:=(oU _ _ _).trans hRs;have t1:=qa us (i *3) ROW (by rw[hRs,xC];omega);have t2:=qa tail ((i+1) *3) (wR ROW (i *3) us) (by rw[hs1,hlen];omega);have t3:(wR (wR ROW (i *3) us) ((i+1) *3) tail).toList.take ((cap+1) *3)=vs.take (i *3)++us++tail:=by
   have ta:∀R,(vs.take (i *3)++us++R).take ((i+1) *3)=vs.take (i *3)++us:=λR=>mK (by rw[bR,Tq,xC];omega)
   rw[t2,t1,hRt,ta];exact mK (by rw[bR,bR,Tq,xC,hlen];omega)
  obtain⟨r1,r2⟩:=jk i hrc;rw[<-Dj] at r2;have hxl:(xs.take i++[y]++xs.drop i).length=cap+1:=aH;have hsz0:(w.alloc (.cells ROW 66)).heap.size=w.heap.size+1:=by show(w.heap.push _).size=_;simp
  refine KJ (us:=vs.take (i *3)++us++tail) lW ⟨by rw[hxl,bR,bR,Tq,xC,hlen];omega, .inr ⟨w.heap.size,G,_,by rw[hxl],cO _,oC tail ((i+1) *3) (w:=((w.alloc (.cells ROW 66)).drew.setCells w.heap.size (i *3) us).drew) hg1,by rw[hxl];exact hGn,hG63,by rw[oU,hs1],by rw[hxl];exact t3⟩⟩ (mW (mW r1 wD) r2) (.inr rfl) (λg' hg'=> ?_) (λg'=>by rw[e1];exact fP) (λb' hb' hb2=> ?_) ?_ ?_ ?_ ?_
  .rw[e1] at hg';cases hg';exact acM
  .have hb3:b'≠w.heap.size:=af;rw[World.heap_setCells_other _ _ _ _ (by show _<(World.setCells _ _ _ _).heap.size;rw[jm];show _<(w.alloc (.cells ROW 66)).heap.size;omega) hb3];show(World.setCells _ _ _ _).heap[b']? =_;rw[World.heap_setCells_other _ _ _ _ (by show _<(w.alloc (.cells ROW 66)).heap.size;omega) hb3];show(w.heap.push _)[b']? =_;rw[Array.getElem?_push,aA hb3]
  .rw[World.os_setCells];show(World.setCells _ _ _ _).os=_;rw[World.os_setCells];rfl
  .rw[nv];show(World.setCells _ _ _ _).tape=_;rw[nv];rfl
  .rw[World.output_setCells];show(World.setCells _ _ _ _).output=_;rw[World.output_setCells];rfl
  .rw[jm];show _<=(World.setCells _ _ _ _).heap.size;rw[jm];show _<=(w.alloc (.cells ROW 66)).heap.size;omega
 have X:Aside (∀W3,W3=(((w.alloc (.cells ROW 66)).drew.setCells w.heap.size (i *3) us).drew).setCells w.heap.size ((i+1) *3) tail->∃μ' loc',eo False μ loc [20000] (.gy [.gy [.self 0, .lY, .self 20000]]) [(20000, .row 66 3 (xs.take i++[y]++xs.drop i))] w (.slice (some ⟨w.heap.size,0,none⟩) (cap+1) G) μ' loc' W3):=fin;have hw1:IntKind.i64.wrap ((i:Int)+1)=(i:Int)+1:=by rw[IntKind.wrap_i64];omega
 have hw2:IntKind.i64.wrap ((cap:Int)+1)=(cap:Int)+1:=by rw[IntKind.wrap_i64];omega
 have hw3:IntKind.i64.wrap ((cap:Int)+1-(i:Int))=(cap:Int)+1-(i:Int):=by rw[IntKind.wrap_i64];omega
 have htn:((i:Int)+1).toNat=i+1:=af;have htn2:((cap:Int)+1).toNat=cap+1:=af;have hb1:(0:Int)<=(i:Int)+1:=af;have hin:i<=cap:=af;have acJ:i<=cap+1:=af;have hb3:(i:Int)<=(cap:Int):=af;have hb2:¬(G=i+1):=af;have hb6:¬(G=i):=af;have hb4:¬(cap=i):=af;have hb5:¬((i:Int)=(cap:Int)):=af;have hG64:G<=9223372036854775807:=by unfold maxLen at hG63;omega
 subst Ih;have hE1:∀x,((w.alloc (.cells ROW 66)).drew).cell? x=(w.drew.alloc (.cells ROW 66)).cell? x:=λx=>rfl
 have hE2:∀x,((w.alloc (.cells ROW 66)).drew).frozen? x=(w.drew.alloc (.cells ROW 66)).frozen? x:=λx=>rfl
 have hF1:∀x,(((w.alloc (.cells ROW 66)).drew.setCells w.heap.size (i *3) us).drew).cell? x=((w.drew.alloc (.cells ROW 66)).setCells w.heap.size (i *3) us).cell? x:=λx=>rfl
 have hF2:∀x,(((w.alloc (.cells ROW 66)).drew.setCells w.heap.size (i *3) us).drew).frozen? x=((w.drew.alloc (.cells ROW 66)).setCells w.heap.size (i *3) us).frozen? x:=λx=>rfl
 clear fin hkk hik hold hROW hG hRs hRt hgN hN hNf hOb hOv GD hlen hown hrc KO xB hsz V5 hv1 hvl lW hcell Tq xC wD
 go_enter Tryz.func30,Tryz.ntmps30
 go_wp2_with (first
  |(at_builtin;refine Lib.wpList_append_run _ rfl _ _ _ _ rfl _ _ rfl rfl _ _ (hrz _) ?_)
  |(at_builtin;refine wpList_copy_runI _ rfl _ _ 38 38 rfl _ _ rfl rfl (hcpA _ hE1 hE2 _ _) ?_))
 go_region_law (refine step_copy_runI rfl _ _ 38 38 rfl (.slice (some ⟨w.heap.size,(i+1) *3,none⟩) (cap-i) (G-(i+1))) (.slice (some ⟨g,i *3,none⟩) (cap-i) (cap-i)) (by simp[Act.eval,Act.put]) (by simp[Act.eval,Act.put]) (hcpB _ hF1 hF2 3 (G-(i+1)) (cap-i)) ?_)
 go_wp2
 go_ret
 obtain⟨μ',loc',h⟩:=X.out _ rfl;rw[Dj] at h;exact⟨_,μ',loc',rfl,h⟩
def ins30 {H:Mu} {B:Nat->Value} {w:World} {xs:List (List AV)} {y:List AV} {i:Nat} (U:i<=xs.length) (l:(xs.length+1) *64<=140737488355328) (q:Hz H w) (z:mS w.heap.size (gJ False B [20000]) H B w 20000 (.row 66 3 xs)) {u:Value} (L:rep H (.dK 3 [y]) u):
  Calls P 30 #[B 20000, .int .i64 i,u] w λe R=>∃v N G,e= .returned v/\eo False H B [20000] (.gy [.gy [.self 0, .lY, .self 20000]]) [(20000, .row 66 3 (xs.take i++[y]++xs.drop i))] w v N G R:=by
 by_cases K:i=xs.length
 .subst K;rw[fZ,qm,eP];exact aat l q z L
 .have D:=z;obtain⟨V,F,_⟩:=D;rcases F.2 with⟨_,S⟩|⟨g,I,O,e1,_⟩
  .omega
  .by_cases Q:xs.length+1<=I
   .exact Tu af l q z L e1 Q
   .exact Wa af l q z L e1 af
end Go.Proofs.YtacapiamkgkkjaaGreatDoor.cl
namespace Go.Proofs.YtacapiamkgkkjaaGreatDoor.cl
open Go Go.AM Go.RowKit
def aaX:∀{xs:List (List AV)} {l:List (List UInt8)},strs xs=some l->xs=l.map jL:=by intro xs;induction xs with
 |nil=>intro l h;simp[strs] at h;subst h;rfl
 |cons c xs z=>
  intro l h;unfold strs at h;split at h
  .rename_i e;cases e
  .rename_i s B e;injection e with e1 q;subst e1 q;simp only[cu] at h;obtain⟨m,w,rfl⟩:=h;rw[z w];rfl
  .cases h
def post_of {z:Mu} {q:Nat->Value} {w D:World} {r:AV} {v:Value} (F:Hz z w) (l:Below w.heap.size w D) (G:rep z r v):eo False z q [] r [] w v z q D where
 ext:=Mu.ext.toL ⟨Mu.le.refl _,λ_ _ _ h=> .inl h⟩
 yx:=λb j x H=>by have h:=F b j x H;rw[iU (l.block b (q9 h)) j];exact h
 res:= .inl G
 obs:=λid o h=>by cases h
 apart:=λi j I K h=>by cases h
 keep:=λb B _=>l.block b B
 fix:=λid h=>by cases h
 os:=l.os
 tape:=l.tape
 output:=l.output
 grown:=l.size
 drawn:=λh=>h.elim
def ja {D:Nat} {L:tG} {G:Mu} {l:Nat->Value} {w:World} {id e F:Nat} {xs:List (List AV)} (h:mS D L G l w id (.row e F xs)):fO (l id)=l id:=by
 obtain⟨H,q,_⟩:=h;rcases q.2 with⟨e1,_⟩|⟨g,z,B,e1,_⟩
 .rw[e1];rfl
 .rw[e1];rfl
def prim_ok {B:Mu}:iD False B P gT:=by
 intro g args cM r BN z w μ S us hB G L hap O;unfold gT at z;split at z
 .rename_i xs;obtain⟨N,z⟩:=cg z;simp only[aW,ck] at z;obtain⟨rfl,rfl⟩:=z;obtain⟨U,H,rfl,F,q⟩:=O
  have:H=[]:=q
  subst this;exact .inl ⟨by decide,λQ=>oT Tryz.func159 (by decide) (by rfl) _ Q,ab0 (q:=False) (λh=>h) G F (fD N)⟩
 .rename_i xs;obtain⟨N,z⟩:=cg z;simp only[aW,ck] at z;obtain⟨rfl,rfl⟩:=z;obtain⟨U,H,rfl,F,q⟩:=O
  have:H=[]:=q
  subst this;exact .inl ⟨by decide,λQ=>oT Tryz.func111 (by decide) (by rfl) _ Q,abZ (q:=False) (λh=>h) G F (fD N)⟩
 .rename_i xs;obtain⟨N,z⟩:=cg z;simp only[aW,ck] at z;obtain⟨rfl,rfl⟩:=z;obtain⟨U,H,rfl,F,q⟩:=O
  have:H=[]:=q
  subst this;exact .inl ⟨by decide,λQ=>oT Tryz.func31 (by decide) (by rfl) _ Q,clone31 (q:=False) (λh=>h) G F (fD N)⟩
 .rename_i xs;obtain⟨N,z⟩:=cg z;simp only[aW,ck] at z;obtain⟨rfl,rfl⟩:=z;obtain⟨U,H,rfl,F,q⟩:=O
  have:H=[]:=q
  subst this;exact .inl ⟨by decide,λQ=>oT Tryz.func62 (by decide) (by rfl) _ Q,clone62 (q:=False) (λh=>h) G F (fD N)⟩
 .rename_i xs;split at z
  .rename_i l hl;obtain⟨N,z⟩:=cg z;simp only[aW,ck] at z;obtain⟨rfl,rfl⟩:=z;have hxs:=aaX hl;subst hxs;obtain⟨U,H,rfl,F,q⟩:=O
   have:H=[]:=q
   subst this;have I:U=S 10000:=(show U=fO (S 10000) from F).trans (ja (L 10000 _ rfl));subst I;exact .inl ⟨by decide,λQ=>oT Tryz.func172 (by decide) (by rfl) _ Q,sort80 (fD N) G (L 10000 _ rfl)⟩
  .cases z
 .rename_i xs;split at z
  .rename_i l hl;obtain⟨N,z⟩:=cg z;simp only[aT] at N;simp only[aW,ck] at z;obtain⟨rfl,rfl⟩:=z;obtain⟨U,H,rfl,F,q⟩:=O;obtain⟨u1,us2,rfl,R,K⟩:=q
   have:us2=[]:=K
   subst this;have D:rep μ (.fn 265 []) u1:=R;rw[rep.eq_def] at D;dsimp only at D;obtain⟨vs,rfl,hvs⟩:=D
   have:vs=[]:=hvs
   subst this;exact .inl ⟨by decide,λQ=>oT Tryz.func263 (by decide) (by rfl) _ Q,sortedA G hl N.1 (fD N.2) F⟩
  .cases z
 .rename_i a b;simp only[aW,ck] at z;obtain⟨rfl,rfl⟩:=z;obtain⟨U,H,rfl,F,q⟩:=O;obtain⟨u1,us2,rfl,R,K⟩:=q
  have:us2=[]:=K
  subst this;have I:rep μ (.str a) U:=F;have D:rep μ (.str b) u1:=R;rw[rep] at I D;subst I D;refine .inl ⟨by decide,λQ=>oT Tryz.func65 (by decide) (by rfl) _ Q,(cmp65 _ _ w).mono ?_⟩;rintro e w' ⟨rfl,rfl⟩;exact⟨_,μ,S,rfl,post_of G (iz _ _) (by rw[rep];exact aU (Value.int .i64) (Kt a b))⟩
 .rename_i i j e xs;obtain⟨N,z⟩:=cg z;simp only[aT,mH] at N;obtain⟨⟨⟨hi,hij⟩,hj⟩,he⟩:=N;have he:=rX he;subst he;simp only[aW,ck] at z;obtain⟨rfl,rfl⟩:=z;obtain⟨U,H,rfl,F,q⟩:=O;obtain⟨u1,us2,rfl,R,K⟩:=q;obtain⟨u2,us3,rfl,Yb,V⟩:=K
  have:us3=[]:=V
  subst this;have I:U=S 10000:=(show U=fO (S 10000) from F).trans (ja (L 10000 _ rfl));subst I;have D:rep μ (.int .i64 i) u1:=R;have hu2':rep μ (.int .i64 j) u2:=Yb;rw[rep] at D hu2';subst D hu2';obtain⟨a,rfl⟩:=fW hi;obtain⟨b,rfl⟩:=fW (by omega:0<=j);have h:=del72 (i:=a) (j:=b) af af G (L 10000 _ rfl);have e1:((b:Int)-(a:Int)).toNat=b-a:=af;rw[aS,aS,e1];exact .inl ⟨by decide,λQ=>oT Tryz.func72 (by decide) (by rfl) _ Q,h⟩
 .rename_i i y e xs;obtain⟨N,z⟩:=cg z;simp only[aT,mH] at N;obtain⟨⟨⟨hi,hj⟩,hbig⟩,he⟩:=N;have he:=rX he;subst he;simp only[aW,ck] at z;obtain⟨rfl,rfl⟩:=z;obtain⟨U,H,rfl,F,q⟩:=O;obtain⟨u1,us2,rfl,R,K⟩:=q;obtain⟨u2,us3,rfl,Yb,V⟩:=K
  have:us3=[]:=V
  subst this;have I:U=S 20000:=(show U=fO (S 20000) from F).trans (ja (L 20000 _ rfl));subst I;have D:rep μ (.int .i64 i) u1:=R;rw[rep] at D;subst D;obtain⟨a,rfl⟩:=fW hi;have h:=ins30 (i:=a) af (fD hbig) G (L 20000 _ rfl) (u:=u2) Yb;rw[aS];exact .inl ⟨by decide,λQ=>oT Tryz.func30 (by decide) (by rfl) _ Q,h⟩
 .cases z
def blk_all {B:Mu}:∀f fn c,P.funcs[f]? =some fn->fn.body=some c->rV False B P (H f) fn.ntmps c:=λf fn c _ _=>rV.none (acP f) c
