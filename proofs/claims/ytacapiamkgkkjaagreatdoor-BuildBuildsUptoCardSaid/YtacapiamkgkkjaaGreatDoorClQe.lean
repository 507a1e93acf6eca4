/- The shelf's contracts of sorting, laid. -/
import Derived.Shelf.Sort.Plain
import Derived.Shelf.Slices.In.SortNone
import Derived.Shelf.SlSortCmp.WholeK
import Derived.Shelf.SlSortCmp.NoneTotal
import Derived.Ground.Names2Prog
import Derived.Ground.SlsfProg
import Derived.Test.YtacapiamkgkkjaaGreatDoorProg
import Derived.Test.YtacapiamkgkkjaaGreatDoorClQs
import Derived.Test.YtacapiamkgkkjaaGreatDoorClT
import Derived.WalkKit
import Derived.Lib.SliceRun
import Derived.Lib.Walk
import Derived.Shelf.RegionOpenPlain
import Derived.Deep.LoopGhost
set_option linter.all false
namespace Go.Proofs
open Go.Shelf
def Tryz.RV:Go.Shelf.Ren:=⟨λ|190=>172|125=>210|258=>209|128=>240|129=>241|302=>231|303=>232|304=>233|305=>234|306=>235|307=>236|308=>237|309=>238|310=>239|333=>269|329=>270|330=>271|334=>272|335=>273|336=>274|344=>306|n=>n,λ|31=>24|9=>9|3=>3|46=>199|0=>0|51=>291|53=>244|4=>4|183=>284|182=>283|131=>87|5=>5|218=>323|222=>327|228=>355|229=>356|n=>n,λ|n=>n⟩
def Tryz.lays190:Go.Proofs.Lays.n190 Tryz.prog Tryz.RV:={
 mixed:=by kernel_rfl
 f125:=Tryz.func210.trans (aR some (by kernel_rfl))
 f128:=Tryz.func240.trans (aR some (by kernel_rfl))
 f129:=Tryz.func241.trans (aR some (by kernel_rfl))
 f190:=Tryz.func172.trans (aR some (by kernel_rfl))
 f258:=Tryz.func209.trans (aR some (by kernel_rfl))
 f302:=Tryz.func231.trans (aR some (by kernel_rfl))
 f303:=Tryz.func232.trans (aR some (by kernel_rfl))
 f304:=Tryz.func233.trans (aR some (by kernel_rfl))
 f305:=Tryz.func234.trans (aR some (by kernel_rfl))
 f306:=Tryz.func235.trans (aR some (by kernel_rfl))
 f307:=Tryz.func236.trans (aR some (by kernel_rfl))
 f308:=Tryz.func237.trans (aR some (by kernel_rfl))
 f309:=Tryz.func238.trans (aR some (by kernel_rfl))
 f310:=Tryz.func239.trans (aR some (by kernel_rfl))
 f329:=Tryz.func270.trans (aR some (by kernel_rfl))
 f330:=Tryz.func271.trans (aR some (by kernel_rfl))
 f333:=Tryz.func269.trans (aR some (by kernel_rfl))
 f334:=Tryz.func272.trans (aR some (by kernel_rfl))
 f335:=Tryz.func273.trans (aR some (by kernel_rfl))
 f336:=Tryz.func274.trans (aR some (by kernel_rfl))
 f344:=Tryz.func306.trans (aR some (by kernel_rfl))
 t0:=Tryz.underlying0
 a0:=Tryz.isAgg0
 z0:=Tryz.sizeOf0
 v0:=Tryz.zeroValue0
 t3:=Tryz.underlying3
 a3:=Tryz.isAgg3
 z3:=Tryz.sizeOf3
 v3:=Tryz.zeroValue3
 t4:=Tryz.underlying4
 a4:=Tryz.isAgg4
 z4:=Tryz.sizeOf4
 v4:=Tryz.zeroValue4
 t5:=Tryz.underlying5
 a5:=Tryz.isAgg5
 z5:=Tryz.sizeOf5
 v5:=Tryz.zeroValue5
 t9:=Tryz.underlying9
 a9:=Tryz.isAgg9
 z9:=Tryz.sizeOf9
 v9:=Tryz.zeroValue9
 t31:=Tryz.underlying24
 a31:=Tryz.isAgg24
 z31:=Tryz.sizeOf24
 v31:=Tryz.zeroValue24
 t46:=Tryz.underlying199
 a46:=Tryz.isAgg199
 z46:=Tryz.sizeOf199
 v46:=Tryz.zeroValue199
 t51:=Tryz.underlying291
 a51:=Tryz.isAgg291
 z51:=Tryz.sizeOf291
 v51:=Tryz.zeroValue291
 t53:=Tryz.underlying244
 a53:=Tryz.isAgg244
 z53:=Tryz.sizeOf244
 v53:=Tryz.zeroValue244
 t131:=Tryz.underlying87
 a131:=Tryz.isAgg87
 z131:=Tryz.sizeOf87
 v131:=Tryz.zeroValue87
 t182:=Tryz.underlying283
 a182:=Tryz.isAgg283
 z182:=Tryz.sizeOf283
 v182:=Tryz.zeroValue283
 t183:=Tryz.underlying284
 a183:=Tryz.isAgg284
 z183:=Tryz.sizeOf284
 v183:=Tryz.zeroValue284
 t218:=Tryz.underlying323
 a218:=Tryz.isAgg323
 z218:=Tryz.sizeOf323
 v218:=Tryz.zeroValue323
 t222:=Tryz.underlying327
 a222:=Tryz.isAgg327
 z222:=Tryz.sizeOf327
 v222:=Tryz.zeroValue327
 t228:=Tryz.underlying355
 a228:=Tryz.isAgg355
 z228:=Tryz.sizeOf355
 v228:=Tryz.zeroValue355
 t229:=Tryz.underlying356
 a229:=Tryz.isAgg356
 z229:=Tryz.sizeOf356
 v229:=Tryz.zeroValue356 }
def Tryz.RW:Go.Shelf.Ren:=⟨λ|6=>304|15=>210|14=>337|28=>240|29=>241|20=>357|21=>358|22=>359|23=>360|24=>361|25=>362|26=>363|27=>364|46=>368|47=>270|48=>271|49=>369|50=>370|57=>371|n=>n,λ|22=>58|24=>57|25=>318|3=>3|39=>199|0=>0|53=>291|55=>244|4=>4|46=>284|45=>283|50=>87|5=>5|9=>9|66=>323|70=>327|76=>355|77=>356|n=>n,λ|n=>n⟩
def Tryz.laysF6a:Go.Proofs.SlLaysF0.n6 Tryz.prog Tryz.RW:={
 mixed:=by kernel_rfl
 f6:=⟨Tryz.f304.name,by decide,Tryz.func304.trans (aR some (by kernel_rfl))⟩
 f14:=⟨Tryz.f337.name,by decide,Tryz.func337.trans (aR some (by kernel_rfl))⟩
 f15:=Tryz.func210.trans (aR some (by kernel_rfl))
 f20:=⟨Tryz.f357.name,by decide,Tryz.func357.trans (aR some (by kernel_rfl))⟩
 f21:=⟨Tryz.f358.name,by decide,Tryz.func358.trans (aR some (by kernel_rfl))⟩
 f22:=⟨Tryz.f359.name,by decide,Tryz.func359.trans (aR some (by kernel_rfl))⟩
 f23:=⟨Tryz.f360.name,by decide,Tryz.func360.trans (aR some (by kernel_rfl))⟩
 f24:=⟨Tryz.f361.name,by decide,Tryz.func361.trans (aR some (by kernel_rfl))⟩
 f25:=⟨Tryz.f362.name,by decide,Tryz.func362.trans (aR some (by kernel_rfl))⟩
 f26:=⟨Tryz.f363.name,by decide,Tryz.func363.trans (aR some (by kernel_rfl))⟩
 f27:=⟨Tryz.f364.name,by decide,Tryz.func364.trans (aR some (by kernel_rfl))⟩
 f28:=Tryz.func240.trans (aR some (by kernel_rfl))
 f29:=Tryz.func241.trans (aR some (by kernel_rfl))
 f46:=⟨Tryz.f368.name,by decide,Tryz.func368.trans (aR some (by kernel_rfl))⟩
 f47:=Tryz.func270.trans (aR some (by kernel_rfl))
 f48:=Tryz.func271.trans (aR some (by kernel_rfl))
 f49:=⟨Tryz.f369.name,by decide,Tryz.func369.trans (aR some (by kernel_rfl))⟩
 f50:=⟨Tryz.f370.name,by decide,Tryz.func370.trans (aR some (by kernel_rfl))⟩
 f57:=⟨Tryz.f371.name,by decide,Tryz.func371.trans (aR some (by kernel_rfl))⟩
 t0:=Tryz.underlying0
 a0:=Tryz.isAgg0
 z0:=Tryz.sizeOf0
 v0:=Tryz.zeroValue0
 t3:=Tryz.underlying3
 a3:=Tryz.isAgg3
 z3:=Tryz.sizeOf3
 v3:=Tryz.zeroValue3
 t4:=Tryz.underlying4
 a4:=Tryz.isAgg4
 z4:=Tryz.sizeOf4
 v4:=Tryz.zeroValue4
 t5:=Tryz.underlying5
 a5:=Tryz.isAgg5
 z5:=Tryz.sizeOf5
 v5:=Tryz.zeroValue5
 t9:=Tryz.underlying9
 a9:=Tryz.isAgg9
 z9:=Tryz.sizeOf9
 v9:=Tryz.zeroValue9
 t22:=Tryz.underlying58
 a22:=Tryz.isAgg58
 z22:=Tryz.sizeOf58
 v22:=Tryz.zeroValue58
 t25:=Tryz.underlying318
 a25:=Tryz.isAgg318
 z25:=Tryz.sizeOf318
 v25:=Tryz.zeroValue318
 t39:=Tryz.underlying199
 a39:=Tryz.isAgg199
 z39:=Tryz.sizeOf199
 v39:=Tryz.zeroValue199
 t45:=Tryz.underlying283
 a45:=Tryz.isAgg283
 z45:=Tryz.sizeOf283
 v45:=Tryz.zeroValue283
 t46:=Tryz.underlying284
 a46:=Tryz.isAgg284
 z46:=Tryz.sizeOf284
 v46:=Tryz.zeroValue284
 t50:=Tryz.underlying87
 a50:=Tryz.isAgg87
 z50:=Tryz.sizeOf87
 v50:=Tryz.zeroValue87
 t53:=Tryz.underlying291
 a53:=Tryz.isAgg291
 z53:=Tryz.sizeOf291
 v53:=Tryz.zeroValue291
 t55:=Tryz.underlying244
 a55:=Tryz.isAgg244
 z55:=Tryz.sizeOf244
 v55:=Tryz.zeroValue244
 t66:=Tryz.underlying323
 a66:=Tryz.isAgg323
 z66:=Tryz.sizeOf323
 v66:=Tryz.zeroValue323
 t70:=Tryz.underlying327
 a70:=Tryz.isAgg327
 z70:=Tryz.sizeOf327
 v70:=Tryz.zeroValue327
 t76:=Tryz.underlying355
 a76:=Tryz.isAgg355
 z76:=Tryz.sizeOf355
 v76:=Tryz.zeroValue355
 t77:=Tryz.underlying356
 a77:=Tryz.isAgg356
 z77:=Tryz.sizeOf356
 v77:=Tryz.zeroValue356 }
end Go.Proofs
namespace Go.Proofs.YtacapiamkgkkjaaGreatDoor.cl
open Go Go.AM Go.RowKit
def R4 (l:List (List UInt8)):(l.mergeSort λx y=>decide (x<=y))=tE Op.bytesLess l:=by
 have e:(λx y:List UInt8=>decide (x<=y))=λx y=> !Op.bytesLess y x:=by
  funext x y;rw[bytesLess_eq];by_cases h:y<x
  .have:¬x<=y:=λD=>D h
   simp[h,this]
  .have:x<=y:=h
   simp[h,this]
 rw[e];obtain⟨F,G⟩:=A7 Op.bytesLess (λa b h=>AK h) TC l;refine Hx ((List.mergeSort_perm l _).trans G.symm) ?_ F ?_
 .have:=List.pairwise_mergeSort (le:=λx y:List UInt8=> !Op.bytesLess y x) (λa b c q w=>by
   simp only[gO] at q w⊢;cases z:Op.bytesLess c a with
   |false=>rfl
   |true=>
    have:=TC _ _ _ z q
    rw[w] at this;cases this) (λa b=>by
   cases z:Op.bytesLess b a with
   |false=>simp
   |true=>simp[AK z]) l
  refine this.imp ?_;intro a b h;simpa using h
 .intro x _ y _ q w;apply ef;intro B;have:=AL _ _ q B;rw[w] at this;cases this
open Go.Sort in
def JA {z:Type} [Inhabited z] {enc:z->Value} {w:World} {n g:Nat} {d:Array z} {os:Array Obj} {cur:Array Value} {e:TypeId} (B:w.heap[g]? =some (.cells cur e (0,0))):
  (grow (putRow enc (Sort.ahead w n) g 0 d) os).heap[g]? =some (.cells (putCells enc 0 d cur) e (0,0))/\(∀b,b<w.heap.size->b≠g->(grow (putRow enc (Sort.ahead w n) g 0 d) os).heap[b]? =w.heap[b]?)/\w.heap.size<=(grow (putRow enc (Sort.ahead w n) g 0 d) os).heap.size:=by
 have l:g<w.heap.size:=(ga.1 B).1;have F:(grow (putRow enc (Sort.ahead w n) g 0 d) os).heap=w.heap.modify g (onCells (putCells enc 0 d))++os:=rfl;rw[F];refine⟨?_,λb D q=> ?_,?_⟩
 .rw[uB (by simpa using l),yU,aB rfl,B];rfl
 .rw[uB (by simpa using D),yU,aA (λh=>q h.symm)]
 .simp
open Go.Sort in
def S4 {w:Type} [Inhabited w] {enc:w->Value} {l:List w} {cur:Array Value} (h:l.length<=cur.size):(putCells enc 0 l.toArray cur).size=cur.size/\(putCells enc 0 l.toArray cur).toList.take l.length=l.map enc:=by
 refine⟨by simp[putCells],?_⟩;apply kT;intro i;by_cases q:i<l.length
 .rw[oP,aB q,dP,aN q];have z:i<cur.size:=af;simp[putCells,q,z,aN q]
 .rw[gu aH,gu aH]
def CT {H:Mu}:∀{l:List (List UInt8)} {z:List Value},cW H 1 (l.map oV) z↔z=l.map encStr:=by intro l;induction l with
 |nil=>intro z;exact Iff.rfl
 |cons s l D=>
  intro z;constructor
  .rintro⟨I,ws,rfl,w,_,F⟩;have q:=w.1;simp only[oV,cI] at q;obtain⟨u,G,rfl,B,rfl⟩:=q;rw[rep] at B;subst B;rw[D.1 F];rfl
  .rintro rfl;exact⟨[encStr s],l.map encStr,rfl,⟨⟨_,_,rfl,by rw[rep],rfl⟩,λu w=>by simp only[bS] at w;subst w;rfl⟩,rfl,D.2 rfl⟩
def MZ {z:Mu} {l:Nat->Value} {w:World} {o:Ob} (q:Lq z w) (F:ni w.heap.size (gZ False l [10000]) z l w 10000 o):fF False z l [10000] (.gM []) [(10000,o)] w (.tuple #[]) z l w where
 ext:=Mu.ext.toL ⟨Mu.le.refl _,λ_ _ _ h=> .inl h⟩
 xI:=q
 res:= .inl (by rw[rep.eq_def];exact⟨[],rfl,rfl⟩)
 obs:=λid K h=>by
  have B:=tC h;subst B;have I:o=K:=by simpa[find] using h
  subst I;exact F
 apart:=λi j L N G H D=>absurd ((tC G).trans (tC H).symm) D
 keep:=λ_ _ _=>rfl
 fix:=λ_ _ _ _=>rfl
 os:=rfl
 tape:=rfl
 output:=rfl
 grown:=aW _
 drawn:=λh=>h.elim
def sort80 {μ:Mu} {z:Nat->Value} {w:World} {l:List (List UInt8)} (hlen:l.length<=1073741824) (D:Lq μ w) (Q:ni w.heap.size (gZ False z [10000]) μ z w 10000 (.row 9 1 (l.map oV))):
  Calls P 172 #[z 10000] w λe I=>∃v μ' loc',e= .returned v/\fF False μ z [10000] (.gM []) [(10000, .row 9 1 ((tE Op.bytesLess l).map oV))] w v μ' loc' I:=by
 have R:=Q;obtain⟨vs,U,hrc,Y4⟩:=R;have hvs:=CT.1 hrc;rcases U.2 with⟨e1,h0⟩|⟨g,K,cur,e1,_,hg,B,O,V,q⟩
 .have hl:l=[]:=by
   cases l with
   |nil=>rfl
   |cons a b=>simp at h0
  subst hl;have hc:Calls P 172 #[.slice none 0 0] w λe I=>e= .returned (.tuple #[])/\I=w:=Any.slices_Sort_string_none Tryz.lays190 none 0 w
  rw[e1];refine hc.mono ?_;rintro e I ⟨rfl,rfl⟩;exact⟨_,μ,z,rfl,MZ D Q⟩
 .have hll:(l.map oV).length=l.length:=ai;rw[hll] at e1 B q;rw[yV] at V q;rw[hvs] at q;have hin:lE (z 10000) g:=by rw[e1];exact gU.2 rfl
  obtain⟨G,Cr⟩:=Y4 g hin;have hlt:g<w.heap.size:=(ga.1 hg).1;have F:∀(j:Nat) (L:j<l.length),cur[j]? =some (encStr l[j]):=by
   intro j L;have h1:(cur.toList.take l.length)[j]? =some (encStr l[j]):=by rw[q,dP,aN L];rfl
   rw[oP,aB L] at h1;simpa using h1
  have hH:Go.Sort.Holds encStr w g 0 l.toArray:=by
   intro j L;have N:j<l.length:=by simpa using L
   have hcj:=F j N;rw[eN];refine⟨?_,?_⟩
   .unfold World.cell?;simp only[hg];simp[hcj,N]
   .unfold World.frozen?;simp[hg]
  have hc:Calls P 172 #[.slice (some ⟨g,0,none⟩) l.length K] w λe I=>e= .returned (.tuple #[])/\∃n os,I=Go.Sort.grow (Go.Sort.putRow encStr (Go.Sort.ahead w n) g 0 (l.mergeSort λx y=>decide (x<=y)).toArray) os:=Any.slices_Sort_string Tryz.lays190 g 0 K l w hH hlt af
  rw[e1];refine hc.mono ?_;rintro e I ⟨rfl,n,os,rfl⟩;rw[R4];have H:(tE Op.bytesLess l).length=l.length:=(A7 Op.bytesLess (λa b h=>AK h) TC l).2.length_eq;obtain⟨k1,k2,k3⟩:=JA (enc:=encStr) (n:=n) (d:=(tE Op.bytesLess l).toArray) (os:=os) hg;obtain⟨t1,t2⟩:=S4 (enc:=encStr) (l:=tE Op.bytesLess l) (cur:=cur) af;refine⟨_,μ,z,rfl,M1 (cur:=cur) (us:=(tE Op.bytesLess l).map encStr) D e1 B O (by rw[yV];exact V) G Cr k1 t1 (by rw[yV,<-H];exact t2) (by simp[H]) k2 rfl rfl rfl k3 (by simp[H]) (CT.2 rfl)⟩
end Go.Proofs.YtacapiamkgkkjaaGreatDoor.cl
set_option maxRecDepth 100000
namespace Go.Proofs.YtacapiamkgkkjaaGreatDoor.cl.cq
open Go Go.AM
def gL:eM:=λ_ _ _=>none
abbrev Hq:Nat->Hint:=H
noncomputable abbrev Rn:eM:=run P Hq gL
def Q0:Int->AV:=(λ(x:Int)=>((.int .i64 x):AV))
instance:eO Q0:=⟨λa b h=>by
 simp only[Q0,AV.mp.injEq,AV.int.injEq,AV.str.injEq,AV.bool.injEq,AV.dy.injEq,AV.agg.injEq,AV.gM.injEq,cg,cR,c9] at h
 exact h⟩
def Q1:Bool->AV:=(λ(x:Bool)=>((.bool x):AV))
instance:eO Q1:=⟨λa b h=>by
 simp only[Q1,AV.mp.injEq,AV.int.injEq,AV.str.injEq,AV.bool.injEq,AV.dy.injEq,AV.agg.injEq,AV.gM.injEq,cg,cR,c9] at h
 exact h⟩
def ress:List (Nat×ux):=[(255,⟨_,Q0⟩),(265,⟨_,Q0⟩),(299,⟨_,Q1⟩)]
def wj:lH:={ elem:=GX elems,val:=GX vals,res:=GX ress }
noncomputable def f464 (l q:Int):Option Int:=dec (EN Q0) (Rn 255 [(.pv (.int .i64 l)),(.pv (.int .i64 q))] [])
noncomputable def f495 (l q:cB):Option Int:=dec (EN Q0) (Rn 265 [(.pv (.agg (cB.enc l))),(.pv (.agg (cB.enc q)))] [])
noncomputable def f469 (l:Int):Option Bool:=dec (EN Q1) (Rn 299 [(.pv (.int .i64 l))] [])
def e464 (w z:Int) {r:Int}
 (h:(
 Option.bind (f469 w) λq=>
 Option.bind (f469 z) λl=>
 bif q then(
 bif l then(
 some 0)
 else(
 some (-1)))
 else(
 bif l then(
 some 1)
 else(
 bif(decide (w<z)) then(
 some (-1))
 else(
 bif(decide (w>z)) then(
 some 1)
 else(
 some 0)))):Option Int)=some r):
 f464 w z=some r:=
 qo (E:=(EN Q0)) h (
 Ik λq=>
 Ik λl=>
 Ic (
 Ic (
 Is) (
 Is)) (
 Ic (
 Is) (
 Ic (
 Is) (
 Ic (
 Is) (
 Is)))))
 (by kernel_rfl) (λh=>pI (C:=wj) rfl h)
def e495 (q w:cB) {r:Int}
 (h:(
 Option.bind (f464 q.bM w.bM) λl=>
 some l:Option Int)=some r):
 f495 q w=some r:=
 qo (E:=(EN Q0)) h (
 Ik λl=>
 Is)
 (by kernel_rfl) (λh=>pI (C:=wj) rfl h)
def e469 (l:Int) {r:Bool}
 (h:(
 some (l !=l):Option Bool)=some r):
 f469 l=some r:=
 qo (E:=(EN Q1)) h (
 Is)
 (by kernel_rfl) (λh=>pI (C:=wj) rfl h)
end Go.Proofs.YtacapiamkgkkjaaGreatDoor.cl.cq
namespace Go.Proofs.YtacapiamkgkkjaaGreatDoor.cl
open Go Go.AM
namespace cq
def h96:∀x:Int,f469 x=some false:=λx=>e469 _ ai
def h50:∀x y:Int,f464 x y=some (if x<y then-1 else if y<x then 1 else 0):=by
 intro x y;refine e464 _ _ ?_;rw[h96,ak,h96,ak,au,au];by_cases l:x<y
 .rw[cond_pos (by simpa using l),aB l]
 .rw[cond_neg (by simpa using l),aA l];by_cases q:y<x
  .rw[cond_pos (by simpa using q),aB q]
  .rw[cond_neg (by simpa using q),aA q]
def arc (p:Int×Int):cB:=⟨p.1,p.2⟩
def i495 (p q:Int×Int):f495 (arc p) (arc q)=some (if p.1<q.1 then-1 else if q.1<p.1 then 1 else 0):=by refine e495 _ _ ?_;show Option.bind (f464 p.1 q.1) _=_;rw[h50,ak]
end cq
end Go.Proofs.YtacapiamkgkkjaaGreatDoor.cl
namespace Go.Proofs.YtacapiamkgkkjaaGreatDoor.cl
open Go Go.AM Go.RowKit
def ok:Dx P=true:=by kernel_rfl
def qb {g:Nat} {fn:Func} (B:P.funcs[g]? =some fn) (D:¬(fn.name= "runtime.NumGoroutine")) (w:fn.body.isSome=true) (l:Array Value) (q:World):(callFunc g l).run P q= .ok (.enter g l) q:=by obtain⟨c,z⟩:=oO.1 w;simp[callFunc,B,D,z]
def aay (f:Nat):(H f).blk=[]:=by
 have key:∀(l:List (Nat×Hint)),(l.all λp=>p.2.blk.isEmpty)=true->∀f,((find l f).getD {}).blk=[]:=by intro l;induction l with
  |nil=>intro _ f;rfl
  |cons p l q=>intro h f;rw[gH,aK] at h;simp only[find];cases w:Nat.beq p.1 f with
   |true=>rw[aj];exact yH.1 h.1
   |false=>rw[au];exact q h.2 f
 exact key hints (by kernel_rfl) f
def ZA:∀f fn c,P.funcs[f]? =some fn->fn.body=some c->qV True (λ_ _=>none) P (H f) fn.ntmps c:=λf fn c _ _=>qV.none (aay f) c
def none_ok:iw True (λ_ _=>none) P cq.gL:=λg args cL r l q=>by cases q
structure SK where
 T:Type
 enc:T->List AV
 good:T->Prop
 c:T->T->Int
 ty:Nat
 cm:Nat
 two:∀x,∃a b,enc x=[a,b]
 asy:∀p q,c p q<0->¬c q p<0
 up:∀x y z,c x y<0->¬c z y<0->c x z<0
 nul:∀μ:Mu,∃p us,lM μ (enc p) us/\good p
 runs:∀x y,good x->good y->cq.Rn cm [(.pv (.agg (enc x))),(.pv (.agg (enc y)))] []=some (.int .i64 (c x y),[])
 enters:∀(us:Array Value) (w2:World),(callFunc cm us).run P w2= .ok (.enter cm us) w2
abbrev Al (S:SK) (μ:Mu):Type:={ x:S.T×List Value // lM μ (S.enc x.1) x.2/\S.good x.1 }
variable {S:SK}
noncomputable instance (μ:Mu):Inhabited (Al S μ):=⟨Classical.choice (by
 obtain⟨p,l,h⟩:=S.nul μ
 exact⟨⟨(p,l),h⟩⟩)⟩
def Al.cells {μ:Mu} (x:Al S μ):List Value:=x.1.2
def Al.len {μ:Mu} (x:Al S μ):x.cells.length=2:=by obtain⟨⟨p,z⟩,⟨h,_⟩,_⟩:=x;obtain⟨a,b,e⟩:=S.two p;have w:cI μ (S.enc p) z:=h;rw[e] at w;obtain⟨u,H,D,_,⟨G,q,B,_,l⟩⟩:=w;have F:q=[]:=l;show z.length=2;rw[D,B,F];rfl
def Al.one {μ:Mu} (x:Al S μ):∀v∈x.cells,v.oneCell'=true:=x.2.1.2
def Al.cf {μ:Mu} (x y:Al S μ):Int:=S.c x.1.1 y.1.1
def SK.lt (S:SK) (x y:S.T):Bool:=decide (S.c x y<0)
def swo {μ:Mu}:Go.Sort.SWO (ltOf (Al.cf (S:=S) (μ:=μ))) where
 irrefl x:=by show decide (S.c x.1.1 x.1.1<0)=false;exact p7 λh=>S.asy _ _ h h
 trans x y z h1 h2:=by have l:S.c x.1.1 y.1.1<0:=lV h1;have q:S.c y.1.1 z.1.1<0:=lV h2;exact uS (S.up _ _ _ l (S.asy _ _ q))
 ntrans x y z h1 h2:=by have l:¬S.c x.1.1 y.1.1<0:=yW h1;have q:¬S.c y.1.1 z.1.1<0:=yW h2;exact p7 λw=>l (S.up _ _ _ w q)
def cmp48 {D:Mu} {W:World} (B:Lq D W) (x y:Al S D):Calls P S.cm #[.agg x.cells.toArray, .agg y.cells.toArray] W λe l=>e= .returned (.int .i64 (Al.cf x y))/\∃q F,l=Go.Sort.grow (W.drewN q) F:=by
 have U:=S.runs x.1.1 y.1.1 x.2.2 y.2.2
 have V:=(iw.noY (MY (q:=True) (B:=λ_ _=>none) ok ZA none_ok S.cm _ [] _ _ U W D (λ_=>undef) [.agg x.cells.toArray, .agg y.cells.toArray] (λ_ _ _ h=>by cases h) B (λid o h=>by cases h) (λi j oi oj h=>by cases h)
  ⟨_,_,rfl,(by show rep D (.agg (S.enc x.1.1)) _;rw[rep];exact⟨_,rfl,x.2.1.1,x.2.1.2⟩),_,_,rfl,(by show rep D (.agg (S.enc y.1.1)) _;rw[rep];exact⟨_,rfl,y.2.1.1,y.2.1.2⟩),rfl⟩) λxs h=>by cases h).2
 refine V.mono ?_;rintro e l ⟨v,μ',Q,rfl,w⟩;have O:=w.pure rfl;rw[rep] at O;subst O;refine⟨rfl,l.drawn-W.drawn,l.heap.extract W.heap.size l.heap.size,?_⟩;have hd:=w.drawn trivial;have z:l.heap=W.heap++l.heap.extract W.heap.size l.heap.size:=by
  apply Array.ext_getElem?;intro b;by_cases N:b<W.heap.size
  .rw[uB N];exact w.keep b N (by rintro⟨id,v,h,_⟩;simp[gZ] at h)
  .rw[Array.getElem?_append_right af,Array.getElem?_extract];have hg:=w.grown;by_cases R:b<l.heap.size
   .rw[aB af,show W.heap.size+(b-W.heap.size)=b by omega]
   .rw[aA af,Array.getElem?_eq_none af]
 have ext:∀{a b:World},a.heap=b.heap->a.tape=b.tape->a.drawn=b.drawn->a.os=b.os->a.output=b.output->a=b:=by intro a b G H I K L;cases a;cases b;simp only at G H I K L;subst G H I K L;rfl
 exact ext z w.tape (show l.drawn=W.drawn+(l.drawn-W.drawn) by omega) w.os w.output
end Go.Proofs.YtacapiamkgkkjaaGreatDoor.cl
namespace Go.Proofs.YtacapiamkgkkjaaGreatDoor.cl
open Go Go.AM Go.RowKit
open Go.Sort (flatK size_flatK get_flatK ext_get!)
variable {S:SK}
def Zw {D:Mu}:∀{l:List S.T} {z:List Value},(∀p∈l,S.good p)->cW D 2 (l.map S.enc) z->∃w:List (Al S D),w.map (λx=>x.1.1)=l/\z=(w.map Al.cells).flatten:=by intro l;induction l with
 |nil=>intro z _ h;exact⟨[],rfl,h⟩
 |cons p l K=>
  intro z B h;obtain⟨L,ws,rfl,G,N,H⟩:=h;obtain⟨w,e1,F⟩:=K (λq I=>B q (by simp[I])) H;refine⟨⟨(p,L),G,B p ai⟩::w,?_,?_⟩
  .rw[bu,e1]
  .rw[bu,uT,F];rfl
def acr {q:Mu}:∀(l:List (Al S q)),cW q 2 (l.map λx=>S.enc x.1.1) (l.map Al.cells).flatten:=by intro l;induction l with
 |nil=>rfl
 |cons x l w=>exact⟨x.cells,(l.map Al.cells).flatten,rfl,x.2.1,x.len,w⟩
def Er {w:Mu} (l:List (Al S w)):(l.map Al.cells).flatten.length=l.length *2:=by induction l with
 |nil=>rfl
 |cons x l q=>rw[bu,uT,cM,q,x.len,bw];omega
def aah {B:Mu}:∀(l:List (Al S B)) (t:Nat),t<l.length *2->(l.map Al.cells).flatten[t]! =(l[t / 2]!).cells[t % 2]! :=by intro l;induction l with
 |nil=>intro t h;simp at h
 |cons x l z=>
  intro t h;have w:=x.len;have F:=Er l;rw[bw] at h;rw[bu,uT];by_cases D:t<2
  .have e1:t / 2=0:=af;have q:t % 2=t:=af;rw[e1,q,p8,eX af];simp[p8]
  .obtain⟨s,rfl⟩:∃s,t=s+2:=⟨t-2,af⟩
   have e1:(s+2) / 2=s / 2+1:=af;have q:(s+2) % 2=s % 2:=af;have:=z s af;rw[p8] at this;rw[e1,q,p8,fD af,w,show s+2-2=s by omega,this];simp[p8]
def Rk {μ:Mu} (l:List (Al S μ)):flatK Al.cells 2 l.toArray=(l.map Al.cells).flatten.toArray:=by
 refine ext_get! (by simp only[size_flatK,pQ];exact(Er l).symm) λt w=> ?_
 have q:t<l.length *2:=by simpa using w
 rw[get_flatK _ _ _ t (by simpa using q)];have:=aah l t q;simp only[D3] at this⊢;exact this.symm
def SK.lt_asymm (S:SK) (p q:S.T) (h:S.lt p q=true):S.lt q p=false:=p7 (S.asy _ _ (lV h))
def SK.lt_up (S:SK) (x y z:S.T) (h:S.lt x y=true) (l:S.lt z y=false):S.lt x z=true:=uS (S.up _ _ _ (lV h) (yW l))
def Vo {I:Mu} {l:List S.T} (V:∀x∈l,∀y∈l,S.lt x y=false->S.lt y x=false->x=y) {q:List (Al S I)} (e:q.map (λx=>x.1.1)=l) {w:Array (Al S I)} (U:Go.Sort.PermIn 0 q.toArray.size q.toArray w) (H:Go.Sort.SortedIn (ltOf Al.cf) 0 q.toArray.size w):
  w.toList.map (λx=>x.1.1)=tE S.lt l/\w.toList.length=q.length:=by
 obtain⟨K,_,L⟩:=U;have D:w.size=q.length:=by simpa using K
 have N:w.toList.Perm q:=by
  have O:w.extract 0 q.toArray.size=w:=by rw[<-K];simp
  have P:q.toArray.extract 0 q.toArray.size=q.toArray:=ai;rw[O,P] at L;simpa using L
 refine⟨?_,by simpa using D⟩;obtain⟨s1,s2⟩:=A7 S.lt S.lt_asymm S.lt_up l;have z:(w.toList.map λx=>x.1.1).Perm l:=by rw[<-e];exact N.map _
 refine Hx (lt:=S.lt) (z.trans s2.symm) ?_ s1 ?_
 .unfold mN;rw[kK,nR];intro i j Q R G;have F:i<w.size:=by simpa using Q
  have B:j<w.size:=by simpa using R
  have:=H i j (c4 _) G (by simpa[D] using B);rw[show ltOf Al.cf=λx y:Al S I=>S.lt x.1.1 y.1.1 from rfl,getElem!_pos w j B,getElem!_pos w i F] at this;simpa using this
 .intro x hx y hy;exact V x (z.mem_iff.1 hx) y (z.mem_iff.1 hy)
def sort47 {μ:Mu} {F:Nat->Value} {w:World} {l:List S.T} {R:Go.Shelf.Ren} (L:SlLaysF0.n6 P R) (aE:∀w,(isAgg (R.t 24)).run P w= .ok true w) (zE:∀w,(Go.sizeOf (R.t 24)).run P w= .ok 2 w) (hlen:l.length<=1073741824) (hst:∀x∈l,∀y∈l,S.lt x y=false->S.lt y x=false->x=y) (hw:∀p∈l,S.good p) (H:Lq μ w) (qC:ni w.heap.size (gZ False F [10000]) μ F w 10000 (.row S.ty 2 (l.map S.enc))):
  Calls P (R.f 6) #[F 10000, .func (.func S.cm) #[] #[]] w λe I=>∃v μ' loc',e= .returned v/\fF False μ F [10000] (.gM []) [(10000, .row S.ty 2 ((tE S.lt l).map S.enc))] w v μ' loc' I:=by
 have Ey:=qC;obtain⟨vs,hown,hrc,Y4⟩:=Ey;rcases hown.2 with⟨e1,h0⟩|⟨g,N,cur,e1,_,hg,K,hmax,hsz,D⟩
 .have hl:l=[]:=by
   cases l with
   |nil=>rfl
   |cons a b=>simp at h0
  subst hl;have hc:Calls P (R.f 6) #[.slice none 0 0, .func (.func S.cm) #[] #[]] w λe I=>e= .returned (.tuple #[])/\I=w:=AnyF.slices_SortFunc_none L none 0 _ w
  rw[e1];refine hc.mono ?_;rintro e I ⟨rfl,rfl⟩;exact⟨_,μ,F,rfl,MZ H qC⟩
 .obtain⟨q,U,ha2⟩:=Zw hw hrc;have hal:q.length=l.length:=by rw[<-U];simp
  have hll:(l.map S.enc).length=q.length:=by simp[hal]
  rw[hll] at e1 K D;rw[ha2] at D;have hfl:=Er q;have hin:lE (F 10000) g:=by rw[e1];exact gU.2 rfl
  obtain⟨Q,Cr⟩:=Y4 g hin;have hlt:g<w.heap.size:=(ga.1 hg).1;have O:∀(j:Nat),j<q.length *2->cur[j]? =(q.map Al.cells).flatten[j]? :=by
   intro j hj;have h1:(cur.toList.take (q.length *2))[j]? =(q.map Al.cells).flatten[j]? :=by rw[D]
   rw[oP,aB hj] at h1;simpa using h1
  have hH:Go.Sort.HoldsK Al.cells 2 w g 0 q.toArray:=by
   intro j hj;rw[Rk] at hj⊢;have hj':j<q.length *2:=by rw[<-hfl];simpa using hj
   have V:=O j hj';have hjf:j<(q.map Al.cells).flatten.length:=af;rw[aN hjf] at V;rw[eN];refine⟨?_,?_⟩
   .unfold World.cell?;simp only[hg];rw[D3,p8,aN hjf];simp[V]
   .unfold World.frozen?;simp[hg]
  have hcmp:CmpLays P S.cm #[] (Al.cells (S:=S) (μ:=μ)) 2 Al.cf g 0 q.toArray.size w:=by
   intro m os dk hdk x y;refine cmp48 (W:=sortWorldK Al.cells 2 w g 0 m dk os) ?_ x y;obtain⟨_,k2,_⟩:=JA (enc:=id) (n:=m) (d:=flatK Al.cells 2 dk) (os:=os) hg;intro b j z hz;have h:=H b j z hz;have hne:b≠g:=λe=>by subst e;rw[Cr j] at hz;cases hz
   exact(jq (k2 b (sr h) hne) j).trans h
  have hc:Calls P (R.f 6) #[.slice (some ⟨g,0,none⟩) q.toArray.size N, .func (.func S.cm) #[] #[]] w λe I=>e= .returned (.tuple #[])/\∃B n os,Go.Sort.PermIn 0 q.toArray.size q.toArray B/\Go.Sort.SortedIn (ltOf Al.cf) 0 q.toArray.size B/\I=sortWorldK Al.cells 2 w g 0 n B os:=
   AnyQ.slices_SortFunc L 2 aE zE Al.cells Al.len Al.one Al.cf swo S.cm #[] g 0 N q.toArray w S.enters hcmp hH hlt aH
  have hc':Calls P (R.f 6) #[.slice (some ⟨g,0,none⟩) q.length N, .func (.func S.cm) #[] #[]] w λe I=>e= .returned (.tuple #[])/\∃B n os,Go.Sort.PermIn 0 q.toArray.size q.toArray B/\Go.Sort.SortedIn (ltOf Al.cf) 0 q.toArray.size B/\I=sortWorldK Al.cells 2 w g 0 n B os:=by simpa using hc
  rw[e1];refine hc'.mono ?_;rintro e I ⟨rfl,B,n,os,hp,hso,rfl⟩;obtain⟨q1,q2⟩:=Vo hst U hp hso;have G:=Er B.toList;have hfa:flatK Al.cells 2 B=(B.toList.map Al.cells).flatten.toArray:=by have:=Rk B.toList;simpa using this
  obtain⟨k1,k2,k3⟩:=JA (enc:=id) (n:=n) (d:=flatK Al.cells 2 B) (os:=os) hg;obtain⟨t1,t2⟩:=S4 (enc:=id) (l:=(B.toList.map Al.cells).flatten) (cur:=cur) (by rw[G,q2,hsz];omega);rw[<-hfa] at t1 t2;rw[pT] at t2;have hil:(tE S.lt l).length=q.length:=by rw[<-q1,bC,q2]
  refine⟨_,μ,F,rfl,M1 (cur:=cur) (us:=(B.toList.map Al.cells).flatten) H e1 K hmax hsz Q Cr k1 t1 (by rw[<-q2,<-G];exact t2) (by rw[G,q2]) k2 rfl rfl rfl k3 (by rw[bC,hil]) ?_⟩;rw[<-q1,fk];exact acr B.toList
def L8:∀{xs:List (List AV)} {l:List (Int×Int)},AF xs=some l->xs=l.map QZ
 |[],l,h=>by
  have:l=[]:=(fB h).symm
  subst this;rfl
 |[.int .i64 f, .int .i64 t]::xs,l,h=>by have h:(AF xs).map ((f,t):: ·)=some l:=h;obtain⟨m,q,rfl⟩:=cv.1 h;rw[L8 q];rfl
def XN {l:List (Int×Int)} (h:AE l=true):∀x∈l,∀y∈l,UN x y=false->UN y x=false->x=y:=by induction l with
 |nil=>intro x G;cases G
 |cons a l K=>
  unfold AE at h;simp only[aK,cF,gA] at h;intro x G y I D F;rcases aI.1 G with H|z
  .rcases aI.1 I with B|w
   .rw[H,B]
   .subst H;rcases h.1 y w with q|q
    .rw[D] at q;cases q
    .rw[F] at q;cases q
  .rcases aI.1 I with B|w
   .subst B;rcases h.1 x z with q|q
    .rw[F] at q;cases q
    .rw[D] at q;cases q
   .exact K h.2 x z y w D F
def cA (p q:Int×Int):Int:=if p.1<q.1 then-1 else if q.1<p.1 then 1 else 0
def TJ {p q:Int×Int}:cA p q<0↔p.1<q.1:=by
 unfold cA;split
 .simp[*]
 .split<;>simp[*]
abbrev SKa:SK where
 T:=Int×Int
 enc:=QZ
 good _:=True
 c:=cA
 ty:=57
 cm:=265
 two p:=⟨_,_,rfl⟩
 asy p q h h':=by rw[TJ] at h h';omega
 up x y z h h':=by rw[TJ] at *;omega
 nul μ:=⟨(0,0),[.int .i64 0, .int .i64 0],⟨⟨_,_,rfl,by rw[rep],⟨_,_,rfl,by rw[rep],rfl⟩⟩,λu l=>by
  simp only[aI,nF,pV] at l
  rcases l with rfl|rfl<;>rfl⟩,trivial⟩
 runs x y _ _:=jK (EN cq.Q0) (cq.Rn 265 [(.pv (.agg (cB.enc (cq.arc x)))),(.pv (.agg (cB.enc (cq.arc y))))] []) _ (cq.i495 x y)
 enters:=qb Tryz.func265 (by decide) (by rfl)
def Zt:SKa.lt=UN:=by
 funext p q;have h:SKa.c=cA:=by simp only[SKa]
 unfold SK.lt UN;rw[h,nP];exact TJ
end Go.Proofs.YtacapiamkgkkjaaGreatDoor.cl
set_option maxRecDepth 100000
set_option maxHeartbeats 2000000
namespace Go.Proofs.YtacapiamkgkkjaaGreatDoor.cl
open Go Go.AM Go.RowKit
def tJ {H:Mu} {G:Nat->Value} {w Q:World} {e K:Nat} {xs:List (List AV)} {v:Value} {vs:List Value} {q:Qp} (V:q.p->False) (z:Lq H w) (B:Below w.heap.size w Q) (l:Q.ownsRow w.heap.size e K v xs.length vs) (P:cW H K xs vs):
  fF q H G [] (.gM [.gM [.self e, .dy K xs]]) [] w v H G Q where
 ext:=Mu.ext.toL ⟨Mu.le.refl _,λ_ _ _ h=> .inl h⟩
 xI:=λb j x hx=>by have h:=z b j x hx;rw[jq (B.block b (sr h)) j];exact h
 res:= .inr (.inr (.inr ⟨e,K,xs,vs,rfl,by
  refine⟨l.1,?_⟩;rcases l.2 with h|⟨g,D,F,R,_,L⟩
  .exact .inl h
  .exact .inr ⟨g,D,F,R,c4 _,L⟩,P,λg I=>by
  have N:w.heap.size<=g:=by
   rcases l.2 with⟨h,_⟩|⟨g',D,F,h,L,_⟩
   .rw[h] at I;cases I
   .rw[h] at I;cases I;exact L
  refine⟨.inl N,λj=> ?_,λid o h=>by cases h⟩;cases U:H g j with
  |none=>rfl
  |some x=>have:=sr (z _ _ _ U);omega⟩))
 obs:=λid o h=>by cases h
 apart:=λi j oi oj h=>by cases h
 keep:=λb O _=>B.block b O
 fix:=λid h=>by cases h
 os:=B.os
 tape:=B.tape
 output:=B.output
 grown:=B.size
 drawn:=λh=>(V h).elim
def Ec {D:Mu} {w:World} {I:Nat} {xs:List (List AV)} {a:Addr} (q:Lq D w) (N:xs.length=0\/∃b l,some a=some ⟨b,l,none⟩/\lB D I b xs l):
  ∃B,cW D I xs B/\(∀u∈B,u.oneCell'=true)/\∀j u,B[j]? =some u->w.cell? (a.add j)=some u:=by
 rcases N with L|⟨b,l,K,z⟩
 .have:xs=[]:=by simpa using L
  subst this;exact⟨[],rfl,by simp,ai⟩
 .cases K;obtain⟨B,H,O⟩:=tZ z;have F:=kQ H
  exact⟨B,H,F,λj u G=>by
   rw[yX]
   exact yj (q _ _ _ (O j u G)) (F u (bf G))⟩
def ZQ {μ:Mu} {loc:Nat->Value} {w:World} {xs:List (List AV)} {u:Value} {q:Qp} (hq:q.p->False) (oE:Lq μ w) (hu:rep μ (.dy 1 xs) u) (hbig:xs.length *8<=140737488355328):
  Calls P 159 #[u] w λe w'=>∃v μ' loc',e= .returned v/\fF q μ loc [] (.gM [.gM [.self 3, .dy 1 xs]]) [] w v μ' loc' w':=by
 rw[rep.eq_def] at hu;dsimp only at hu;obtain⟨A,c,rfl,hc1,Tg,hA⟩:=hu;have qn:∀(w:World) (a:Option Addr) (n c n' c':Nat),(binOp .eql 107 (.slice a n c) (.slice none n' c')).run P w= .ok (.bool a.isNone) w:=λw a n c n' c'=>Lib.run_eql_slice_nil w _ _ a n c n' c' Tryz.underlying107
 cases A with
 |none=>
  have h0:xs=[]:=by
   rcases hA with h|⟨b,off,e,_⟩
   .simpa using h
   .cases e
  subst h0
  go_enter Tryz.func159,Tryz.ntmps159
  go_wp2
  go_ret
  exact⟨_,μ,loc,rfl,tJ hq oE (ic _ _) (vs:=[]) ⟨rfl, .inl ⟨rfl,rfl⟩⟩ rfl⟩
 |some a=>
  obtain⟨us,Ag,h1,hcell⟩:=Ec oE hA;have G3:=dh Ag;obtain⟨i0,hi,Ti,hz1,hz2⟩:=info_parts (show(P.info? 3).map (λi=>(i.zero,i.size,i.bytes))=some (some (.int .i64 0),1,8) by kernel_rfl);have u107:∀w,Sem.run P (underlying 107) w= .ok (TypeDesc.slice 3) w:=bJ Tryz.underlying107
  go_enter Tryz.func159,Tryz.ntmps159
  go_wp2_with (at_builtin;refine uU _ rfl _ _ 107 rfl w.heap.size 3 i0 (.int .i64 0) 1 8 Tryz.underlying107 hi Ti hz1 hz2 rfl (by decide) _ _ _ rfl (uV w #[] 0 (aW _) (c4 _) rfl) a xs.length c us rfl ?qc1 ?qc2 h1 ?qc4 ?qc5 ?qc6 ?_)
  case qc1=>exact G3
  case qc2=>exact λj u hj=>Lib.cell?_alloc_some _ (hcell j u hj)
  case qc4=>omega
  case qc5=>omega
  case qc6=>simp
  intro v' w1 hown hgrow JB
  go_wp2
  go_ret
  exact⟨_,μ,loc,rfl,tJ hq oE (((ic _ w).alloc (aW _) _).grown hgrow ai (by intro k hk;simp[Value.ownBlock] at hk;omega)) (by simpa using hown) Ag⟩
theorem ZP {μ:Mu} {loc:Nat->Value} {w:World} {xs:List (List AV)} {u:Value} {q:Qp} (hq:q.p->False) (oE:Lq μ w) (hu:rep μ (.dy 2 xs) u) (hbig:xs.length *32<=140737488355328):
  Calls P 111 #[u] w λe w'=>∃v μ' loc',e= .returned v/\fF q μ loc [] (.gM [.gM [.self 60, .dy 2 xs]]) [] w v μ' loc' w':=by
 rw[rep.eq_def] at hu;dsimp only at hu;obtain⟨A,c,rfl,hc1,Tg,hA⟩:=hu;have qn:∀(w:World) (a:Option Addr) (n c n' c':Nat),(binOp .eql 28 (.slice a n c) (.slice none n' c')).run P w= .ok (.bool a.isNone) w:=λw a n c n' c'=>Lib.run_eql_slice_nil w _ _ a n c n' c' Tryz.underlying28
 cases A with
 |none=>
  have h0:xs=[]:=by
   rcases hA with h|⟨b,off,e,_⟩
   .simpa using h
   .cases e
  subst h0
  go_enter Tryz.func111,Tryz.ntmps111
  go_wp2
  go_ret
  exact⟨_,μ,loc,rfl,tJ hq oE (ic _ _) (vs:=[]) ⟨rfl, .inl ⟨rfl,rfl⟩⟩ rfl⟩
 |some a=>
  obtain⟨us,Ag,h1,hcell⟩:=Ec oE hA;have G3:=dh Ag;obtain⟨i0,hi,Ti,hz1,hz2⟩:=info_parts (show(P.info? 60).map (λi=>(i.zero,i.size,i.bytes))=some (some (.agg #[.int .i64 0, .slice none 0 0]),2,32) by kernel_rfl);have u28:∀w,Sem.run P (underlying 28) w= .ok (TypeDesc.slice 60) w:=bJ Tryz.underlying28
  go_enter Tryz.func111,Tryz.ntmps111
  go_wp2_with (at_builtin;refine uU _ rfl _ _ 28 rfl w.heap.size 60 i0 (.agg #[.int .i64 0, .slice none 0 0]) 2 32 Tryz.underlying28 hi Ti hz1 hz2 rfl (by decide) _ _ _ rfl (uV w #[] 0 (aW _) (c4 _) rfl) a xs.length c us rfl ?qc1 ?qc2 h1 ?qc4 ?qc5 ?qc6 ?_)
  case qc1=>exact G3
  case qc2=>exact λj u hj=>Lib.cell?_alloc_some _ (hcell j u hj)
  case qc4=>omega
  case qc5=>omega
  case qc6=>simp
  intro v' w1 hown hgrow JB
  go_wp2
  go_ret
  exact⟨_,μ,loc,rfl,tJ hq oE (((ic _ w).alloc (aW _) _).grown hgrow ai (by intro k hk;simp[Value.ownBlock] at hk;omega)) (by simpa using hown) Ag⟩
def clone31 {μ:Mu} {loc:Nat->Value} {w:World} {xs:List (List AV)} {u:Value} {q:Qp} (hq:q.p->False) (oE:Lq μ w) (hu:rep μ (.dy 3 xs) u) (hbig:xs.length *64<=140737488355328):
  Calls P 31 #[u] w λe w'=>∃v μ' loc',e= .returned v/\fF q μ loc [] (.gM [.gM [.self 66, .dy 3 xs]]) [] w v μ' loc' w':=by
 rw[rep.eq_def] at hu;dsimp only at hu;obtain⟨A,c,rfl,hc1,Tg,hA⟩:=hu;have qn:∀(w:World) (a:Option Addr) (n c n' c':Nat),(binOp .eql 38 (.slice a n c) (.slice none n' c')).run P w= .ok (.bool a.isNone) w:=λw a n c n' c'=>Lib.run_eql_slice_nil w _ _ a n c n' c' Tryz.underlying38
 cases A with
 |none=>
  have h0:xs=[]:=by
   rcases hA with h|⟨b,off,e,_⟩
   .simpa using h
   .cases e
  subst h0
  go_enter Tryz.func31,Tryz.ntmps31
  go_wp2
  go_ret
  exact⟨_,μ,loc,rfl,tJ hq oE (ic _ _) (vs:=[]) ⟨rfl, .inl ⟨rfl,rfl⟩⟩ rfl⟩
 |some a=>
  obtain⟨us,Ag,h1,hcell⟩:=Ec oE hA;have G3:=dh Ag;obtain⟨i0,hi,Ti,hz1,hz2⟩:=info_parts (show(P.info? 66).map (λi=>(i.zero,i.size,i.bytes))=some (some (.agg #[.string ⟨#[]⟩, .slice none 0 0, .slice none 0 0]),3,64) by kernel_rfl);have u38:∀w,Sem.run P (underlying 38) w= .ok (TypeDesc.slice 66) w:=bJ Tryz.underlying38
  go_enter Tryz.func31,Tryz.ntmps31
  go_wp2_with (at_builtin;refine uU _ rfl _ _ 38 rfl w.heap.size 66 i0 (.agg #[.string ⟨#[]⟩, .slice none 0 0, .slice none 0 0]) 3 64 Tryz.underlying38 hi Ti hz1 hz2 rfl (by decide) _ _ _ rfl (uV w #[] 0 (aW _) (c4 _) rfl) a xs.length c us rfl ?qc1 ?qc2 h1 ?qc4 ?qc5 ?qc6 ?_)
  case qc1=>exact G3
  case qc2=>exact λj u hj=>Lib.cell?_alloc_some _ (hcell j u hj)
  case qc4=>omega
  case qc5=>omega
  case qc6=>simp
  intro v' w1 hown hgrow JB
  go_wp2
  go_ret
  exact⟨_,μ,loc,rfl,tJ hq oE (((ic _ w).alloc (aW _) _).grown hgrow ai (by intro k hk;simp[Value.ownBlock] at hk;omega)) (by simpa using hown) Ag⟩
def clone62 {μ:Mu} {loc:Nat->Value} {w:World} {xs:List (List AV)} {u:Value} {q:Qp} (hq:q.p->False) (oE:Lq μ w) (hu:rep μ (.dy 6 xs) u) (hbig:xs.length *112<=140737488355328):
  Calls P 62 #[u] w λe w'=>∃v μ' loc',e= .returned v/\fF q μ loc [] (.gM [.gM [.self 62, .dy 6 xs]]) [] w v μ' loc' w':=by
 rw[rep.eq_def] at hu;dsimp only at hu;obtain⟨A,c,rfl,hc1,Tg,hA⟩:=hu;have qn:∀(w:World) (a:Option Addr) (n c n' c':Nat),(binOp .eql 23 (.slice a n c) (.slice none n' c')).run P w= .ok (.bool a.isNone) w:=λw a n c n' c'=>Lib.run_eql_slice_nil w _ _ a n c n' c' Tryz.underlying23
 cases A with
 |none=>
  have h0:xs=[]:=by
   rcases hA with h|⟨b,off,e,_⟩
   .simpa using h
   .cases e
  subst h0
  go_enter Tryz.func62,Tryz.ntmps62
  go_wp2
  go_ret
  exact⟨_,μ,loc,rfl,tJ hq oE (ic _ _) (vs:=[]) ⟨rfl, .inl ⟨rfl,rfl⟩⟩ rfl⟩
 |some a=>
  obtain⟨us,Ag,h1,hcell⟩:=Ec oE hA;have G3:=dh Ag;obtain⟨i0,hi,Ti,hz1,hz2⟩:=info_parts (show(P.info? 62).map (λi=>(i.zero,i.size,i.bytes))=some (some (.agg #[.string ⟨#[]⟩, .int .i64 0, .string ⟨#[]⟩, .slice none 0 0, .slice none 0 0, .slice none 0 0]),6,112) by kernel_rfl);have u23:∀w,Sem.run P (underlying 23) w= .ok (TypeDesc.slice 62) w:=bJ Tryz.underlying23
  go_enter Tryz.func62,Tryz.ntmps62
  go_wp2_with (at_builtin;refine uU _ rfl _ _ 23 rfl w.heap.size 62 i0 (.agg #[.string ⟨#[]⟩, .int .i64 0, .string ⟨#[]⟩, .slice none 0 0, .slice none 0 0, .slice none 0 0]) 6 112 Tryz.underlying23 hi Ti hz1 hz2 rfl (by decide) _ _ _ rfl (uV w #[] 0 (aW _) (c4 _) rfl) a xs.length c us rfl ?qc1 ?qc2 h1 ?qc4 ?qc5 ?qc6 ?_)
  case qc1=>exact G3
  case qc2=>exact λj u hj=>Lib.cell?_alloc_some _ (hcell j u hj)
  case qc4=>omega
  case qc5=>omega
  case qc6=>simp
  intro v' w1 hown hgrow JB
  go_wp2
  go_ret
  exact⟨_,μ,loc,rfl,tJ hq oE (((ic _ w).alloc (aW _) _).grown hgrow ai (by intro k hk;simp[Value.ownBlock] at hk;omega)) (by simpa using hown) Ag⟩
