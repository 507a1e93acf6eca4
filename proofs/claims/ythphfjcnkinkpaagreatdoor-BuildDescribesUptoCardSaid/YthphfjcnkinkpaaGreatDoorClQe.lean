/- Sorting. -/
import Derived.Test.YthphfjcnkinkpaaGreatDoorClT
import Derived.Shelf.Sort.Plain
import Derived.Shelf.Slices.In.SortNone
import Derived.Shelf.SlSortCmp.WholeK
import Derived.Shelf.SlSortCmp.NoneTotal
import Derived.Ground.Names2Prog
import Derived.Ground.SlsfProg
import Derived.Test.YthphfjcnkinkpaaGreatDoorProg
import Derived.Test.YthphfjcnkinkpaaGreatDoorClQa
import Derived.WalkKit
import Derived.Lib.SliceRun
import Derived.Lib.Walk
import Derived.Shelf.RegionOpenPlain
import Derived.Deep.LoopGhost
set_option linter.all false
namespace Go.Proofs.YthphfjcnkinkpaaGreatDoor.cl
open Go Go.AM Go.RowKit
def HJ {G:Type} {lt:G->G->Bool}:∀{l q:List G},l.Perm q->mO lt l->mO lt q->(∀x∈l,∀y∈l,lt x y=false->lt y x=false->x=y)->l=q:=by intro l;induction l with
 |nil=>intro q h _ _ _;exact(List.nil_perm.1 h).symm
 |cons x l Q=>intro q h K L H;cases q with
  |nil=>exact absurd h.symm ai
  |cons y q=>
   have w:=dU.1 K;have z:=dU.1 L;have D:x=y:=by
    have I:y∈x::l:=h.mem_iff.2 ai;have P:x∈y::q:=h.mem_iff.1 ai;rcases aS.1 I with e|F
    .exact e.symm
    .rcases aS.1 P with e|B
     .exact e
     .exact H x ai y I (z.1 x B) (w.1 y F)
   subst D;rw[Q (List.Perm.cons_inv h) w.2 z.2 λa N b O=>H a (by simp[N]) b (by simp[O])]
def BG {w:Type} (lt:w->w->Bool) (q:∀a b,lt a b=true->lt b a=false) (up:∀x y z,lt x y=true->lt z y=false->lt x z=true) (l:List w):mO lt (tR lt l)/\(tR lt l).Perm l:=by
 have F:∀(x:w) (l:List w),(sn lt x l).Perm (x::l):=by intro x l;induction l with
  |nil=>exact .refl _
  |cons y l D=>
   unfold sn;split
   .exact .refl _
   .exact(D.cons y).trans (.swap x y l)
 have key:∀(l E:List w),mO lt E->mO lt (l.foldl (λout x=>sn lt x out) E)/\(l.foldl (λout x=>sn lt x out) E).Perm (E++l):=by intro l;induction l with
  |nil=>intro E B;exact⟨B,ai⟩
  |cons p l D=>intro E B;obtain⟨G,H⟩:=D _ (BF lt q up B (x:=p));refine⟨G,H.trans ?_⟩;exact((F p E).append_right l).trans (List.perm_middle (a:=p) (l₁:=E) (l₂:=l)).symm
 have:=key l [] (by simp[mO]);simpa[tR] using this
def US (x y z:List UInt8) (h:Op.bytesLess x y=true) (l:Op.bytesLess z y=false):Op.bytesLess x z=true:=by
 by_cases e:z=y
 .rw[e];exact h
 .exact vK _ _ _ h (Bl _ _ l e)
end Go.Proofs.YthphfjcnkinkpaaGreatDoor.cl
namespace Go.Proofs
open Go.Shelf
def Tryz.S9:Go.Shelf.Ren:=⟨λ|190=>229|125=>243|258=>255|128=>273|129=>274|302=>279|303=>280|304=>281|305=>282|306=>283|307=>284|308=>285|309=>286|310=>287|333=>317|329=>306|330=>307|334=>318|335=>319|336=>320|344=>349|n=>n,λ|31=>24|9=>9|3=>3|46=>249|0=>0|51=>320|53=>225|4=>4|183=>314|182=>313|131=>98|5=>5|218=>346|222=>350|228=>382|229=>383|n=>n,λ|n=>n⟩
def Tryz.lays190:Go.Proofs.Lays.n190 Tryz.prog Tryz.S9:={
 mixed:=by kernel_rfl
 f125:=Tryz.func243.trans (aU some (by kernel_rfl))
 f128:=Tryz.func273.trans (aU some (by kernel_rfl))
 f129:=Tryz.func274.trans (aU some (by kernel_rfl))
 f190:=Tryz.func229.trans (aU some (by kernel_rfl))
 f258:=Tryz.func255.trans (aU some (by kernel_rfl))
 f302:=Tryz.func279.trans (aU some (by kernel_rfl))
 f303:=Tryz.func280.trans (aU some (by kernel_rfl))
 f304:=Tryz.func281.trans (aU some (by kernel_rfl))
 f305:=Tryz.func282.trans (aU some (by kernel_rfl))
 f306:=Tryz.func283.trans (aU some (by kernel_rfl))
 f307:=Tryz.func284.trans (aU some (by kernel_rfl))
 f308:=Tryz.func285.trans (aU some (by kernel_rfl))
 f309:=Tryz.func286.trans (aU some (by kernel_rfl))
 f310:=Tryz.func287.trans (aU some (by kernel_rfl))
 f329:=Tryz.func306.trans (aU some (by kernel_rfl))
 f330:=Tryz.func307.trans (aU some (by kernel_rfl))
 f333:=Tryz.func317.trans (aU some (by kernel_rfl))
 f334:=Tryz.func318.trans (aU some (by kernel_rfl))
 f335:=Tryz.func319.trans (aU some (by kernel_rfl))
 f336:=Tryz.func320.trans (aU some (by kernel_rfl))
 f344:=Tryz.func349.trans (aU some (by kernel_rfl))
 t0:=Tryz.underlying0
 a0:=Tryz.isAgg0
 z0:=Tryz.sizeOf0
 v0:=Tryz.zeroValue0
 t3:=Tryz.underlying3
 a3:=Tryz.isAgg3
 z3:=Tryz.sizeOf3
 v3:=Tryz.zeroValue3
 t4:=Tryz.underlying4
 a4:=Tryz.isAgg4
 z4:=Tryz.sizeOf4
 v4:=Tryz.zeroValue4
 t5:=Tryz.underlying5
 a5:=Tryz.isAgg5
 z5:=Tryz.sizeOf5
 v5:=Tryz.zeroValue5
 t9:=Tryz.underlying9
 a9:=Tryz.isAgg9
 z9:=Tryz.sizeOf9
 v9:=Tryz.zeroValue9
 t31:=Tryz.underlying24
 a31:=Tryz.isAgg24
 z31:=Tryz.sizeOf24
 v31:=Tryz.zeroValue24
 t46:=Tryz.underlying249
 a46:=Tryz.isAgg249
 z46:=Tryz.sizeOf249
 v46:=Tryz.zeroValue249
 t51:=Tryz.underlying320
 a51:=Tryz.isAgg320
 z51:=Tryz.sizeOf320
 v51:=Tryz.zeroValue320
 t53:=Tryz.underlying225
 a53:=Tryz.isAgg225
 z53:=Tryz.sizeOf225
 v53:=Tryz.zeroValue225
 t131:=Tryz.underlying98
 a131:=Tryz.isAgg98
 z131:=Tryz.sizeOf98
 v131:=Tryz.zeroValue98
 t182:=Tryz.underlying313
 a182:=Tryz.isAgg313
 z182:=Tryz.sizeOf313
 v182:=Tryz.zeroValue313
 t183:=Tryz.underlying314
 a183:=Tryz.isAgg314
 z183:=Tryz.sizeOf314
 v183:=Tryz.zeroValue314
 t218:=Tryz.underlying346
 a218:=Tryz.isAgg346
 z218:=Tryz.sizeOf346
 v218:=Tryz.zeroValue346
 t222:=Tryz.underlying350
 a222:=Tryz.isAgg350
 z222:=Tryz.sizeOf350
 v222:=Tryz.zeroValue350
 t228:=Tryz.underlying382
 a228:=Tryz.isAgg382
 z228:=Tryz.sizeOf382
 v228:=Tryz.zeroValue382
 t229:=Tryz.underlying383
 a229:=Tryz.isAgg383
 z229:=Tryz.sizeOf383
 v229:=Tryz.zeroValue383 }
def Tryz.Ta:Go.Shelf.Ren:=⟨λ|6=>199|15=>243|14=>242|28=>273|29=>274|20=>265|21=>266|22=>267|23=>268|24=>269|25=>270|26=>271|27=>272|46=>305|47=>306|48=>307|49=>308|50=>309|57=>347|n=>n,λ|22=>69|24=>68|25=>219|3=>3|39=>249|0=>0|53=>320|55=>225|4=>4|46=>314|45=>313|50=>98|5=>5|9=>9|66=>346|70=>350|76=>382|77=>383|n=>n,λ|n=>n⟩
def Tryz.laysF6a:Go.Proofs.SlLaysF0.n6 Tryz.prog Tryz.Ta:={
 mixed:=by kernel_rfl
 f6:=⟨Tryz.f199.name,by decide,Tryz.func199.trans (aU some (by kernel_rfl))⟩
 f14:=⟨Tryz.f242.name,by decide,Tryz.func242.trans (aU some (by kernel_rfl))⟩
 f15:=Tryz.func243.trans (aU some (by kernel_rfl))
 f20:=⟨Tryz.f265.name,by decide,Tryz.func265.trans (aU some (by kernel_rfl))⟩
 f21:=⟨Tryz.f266.name,by decide,Tryz.func266.trans (aU some (by kernel_rfl))⟩
 f22:=⟨Tryz.f267.name,by decide,Tryz.func267.trans (aU some (by kernel_rfl))⟩
 f23:=⟨Tryz.f268.name,by decide,Tryz.func268.trans (aU some (by kernel_rfl))⟩
 f24:=⟨Tryz.f269.name,by decide,Tryz.func269.trans (aU some (by kernel_rfl))⟩
 f25:=⟨Tryz.f270.name,by decide,Tryz.func270.trans (aU some (by kernel_rfl))⟩
 f26:=⟨Tryz.f271.name,by decide,Tryz.func271.trans (aU some (by kernel_rfl))⟩
 f27:=⟨Tryz.f272.name,by decide,Tryz.func272.trans (aU some (by kernel_rfl))⟩
 f28:=Tryz.func273.trans (aU some (by kernel_rfl))
 f29:=Tryz.func274.trans (aU some (by kernel_rfl))
 f46:=⟨Tryz.f305.name,by decide,Tryz.func305.trans (aU some (by kernel_rfl))⟩
 f47:=Tryz.func306.trans (aU some (by kernel_rfl))
 f48:=Tryz.func307.trans (aU some (by kernel_rfl))
 f49:=⟨Tryz.f308.name,by decide,Tryz.func308.trans (aU some (by kernel_rfl))⟩
 f50:=⟨Tryz.f309.name,by decide,Tryz.func309.trans (aU some (by kernel_rfl))⟩
 f57:=⟨Tryz.f347.name,by decide,Tryz.func347.trans (aU some (by kernel_rfl))⟩
 t0:=Tryz.underlying0
 a0:=Tryz.isAgg0
 z0:=Tryz.sizeOf0
 v0:=Tryz.zeroValue0
 t3:=Tryz.underlying3
 a3:=Tryz.isAgg3
 z3:=Tryz.sizeOf3
 v3:=Tryz.zeroValue3
 t4:=Tryz.underlying4
 a4:=Tryz.isAgg4
 z4:=Tryz.sizeOf4
 v4:=Tryz.zeroValue4
 t5:=Tryz.underlying5
 a5:=Tryz.isAgg5
 z5:=Tryz.sizeOf5
 v5:=Tryz.zeroValue5
 t9:=Tryz.underlying9
 a9:=Tryz.isAgg9
 z9:=Tryz.sizeOf9
 v9:=Tryz.zeroValue9
 t22:=Tryz.underlying69
 a22:=Tryz.isAgg69
 z22:=Tryz.sizeOf69
 v22:=Tryz.zeroValue69
 t25:=Tryz.underlying219
 a25:=Tryz.isAgg219
 z25:=Tryz.sizeOf219
 v25:=Tryz.zeroValue219
 t39:=Tryz.underlying249
 a39:=Tryz.isAgg249
 z39:=Tryz.sizeOf249
 v39:=Tryz.zeroValue249
 t45:=Tryz.underlying313
 a45:=Tryz.isAgg313
 z45:=Tryz.sizeOf313
 v45:=Tryz.zeroValue313
 t46:=Tryz.underlying314
 a46:=Tryz.isAgg314
 z46:=Tryz.sizeOf314
 v46:=Tryz.zeroValue314
 t50:=Tryz.underlying98
 a50:=Tryz.isAgg98
 z50:=Tryz.sizeOf98
 v50:=Tryz.zeroValue98
 t53:=Tryz.underlying320
 a53:=Tryz.isAgg320
 z53:=Tryz.sizeOf320
 v53:=Tryz.zeroValue320
 t55:=Tryz.underlying225
 a55:=Tryz.isAgg225
 z55:=Tryz.sizeOf225
 v55:=Tryz.zeroValue225
 t66:=Tryz.underlying346
 a66:=Tryz.isAgg346
 z66:=Tryz.sizeOf346
 v66:=Tryz.zeroValue346
 t70:=Tryz.underlying350
 a70:=Tryz.isAgg350
 z70:=Tryz.sizeOf350
 v70:=Tryz.zeroValue350
 t76:=Tryz.underlying382
 a76:=Tryz.isAgg382
 z76:=Tryz.sizeOf382
 v76:=Tryz.zeroValue382
 t77:=Tryz.underlying383
 a77:=Tryz.isAgg383
 z77:=Tryz.sizeOf383
 v77:=Tryz.zeroValue383 }
end Go.Proofs
namespace Go.Proofs.YthphfjcnkinkpaaGreatDoor.cl
open Go Go.AM Go.RowKit
theorem Tk (l:List (List UInt8)):(l.mergeSort λx y=>decide (x<=y))=tR Op.bytesLess l:=by
 have e:(λx y:List UInt8=>decide (x<=y))=λx y=> !Op.bytesLess y x:=by
  funext x y;rw[bytesLess_eq];by_cases h:y<x
  .have:¬x<=y:=λD=>D h
   simp[h,this]
  .have:x<=y:=h
   simp[h,this]
 rw[e];obtain⟨F,G⟩:=BG Op.bytesLess (λa b h=>Bk h) US l;refine HJ ((List.mergeSort_perm l _).trans G.symm) ?_ F ?_
 .have:=List.pairwise_mergeSort (le:=λx y:List UInt8=> !Op.bytesLess y x) (λa b c q w=>by
   simp only[jx] at q w⊢;cases z:Op.bytesLess c a with
   |false=>rfl
   |true=>
    have:=US _ _ _ z q
    rw[w] at this;cases this) (λa b=>by
   cases z:Op.bytesLess b a with
   |false=>simp
   |true=>simp[Bk z]) l
  refine this.imp ?_;intro a b h;simpa using h
 .intro x _ y _ q w;apply fh;intro B;have:=Bl _ _ q B;rw[w] at this;cases this
open Go.Sort in
def JX {z:Type} [Inhabited z] {enc:z->Value} {w:World} {n g:Nat} {d:Array z} {os:Array Obj} {cur:Array Value} {e:TypeId} (B:w.heap[g]? =some (.cells cur e (0,0))):
  (grow (putRow enc (Sort.ahead w n) g 0 d) os).heap[g]? =some (.cells (putCells enc 0 d cur) e (0,0))/\(∀b,b<w.heap.size->b≠g->(grow (putRow enc (Sort.ahead w n) g 0 d) os).heap[b]? =w.heap[b]?)/\w.heap.size<=(grow (putRow enc (Sort.ahead w n) g 0 d) os).heap.size:=by
 have l:g<w.heap.size:=(mE.1 B).1;have F:(grow (putRow enc (Sort.ahead w n) g 0 d) os).heap=w.heap.modify g (onCells (putCells enc 0 d))++os:=rfl;rw[F];refine⟨?_,λb D q=> ?_,?_⟩
 .rw[uL (by simpa using l),zq,aB rfl,B];rfl
 .rw[uL (by simpa using D),zq,az (λh=>q h.symm)]
 .simp
open Go.Sort in
def Ui {w:Type} [Inhabited w] {enc:w->Value} {l:List w} {cur:Array Value} (h:l.length<=cur.size):(putCells enc 0 l.toArray cur).size=cur.size/\(putCells enc 0 l.toArray cur).toList.take l.length=l.map enc:=by
 refine⟨by simp[putCells],?_⟩;apply kO;intro i;by_cases q:i<l.length
 .rw[oU,aB q,dK,aM q];have z:i<cur.size:=af;simp[putCells,q,z,aM q]
 .rw[gH aI,gH aI]
def Dd {H:Mu}:∀{l:List (List UInt8)} {z:List Value},dc H 1 (l.map pE) z↔z=l.map encStr:=by intro l;induction l with
 |nil=>intro z;exact r6
 |cons s l D=>
  intro z;constructor
  .rintro⟨I,ws,rfl,w,_,F⟩;have q:=w.1;simp only[pE,cS] at q;obtain⟨u,G,rfl,B,rfl⟩:=q;rw[rep] at B;subst B;rw[D.1 F];rfl
  .rintro rfl;exact⟨[encStr s],l.map encStr,rfl,⟨⟨_,_,rfl,by rw[rep],rfl⟩,λu w=>by simp only[cQ] at w;subst w;rfl⟩,rfl,D.2 rfl⟩
def Nz {z:Mu} {l:Nat->Value} {w:World} {o:Ob} (q:L0 z w) (F:nY w.heap.size (iq False l [10000]) z l w 10000 o):fL False z l [10000] (.gX []) [(10000,o)] w (.tuple #[]) z l w where
 ext:=Mu.ext.toL ⟨Mu.le.refl _,λ_ _ _ h=> .inl h⟩
 yc:=q
 res:= .inl (by rw[rep.eq_def];exact⟨[],rfl,rfl⟩)
 obs:=λid K h=>by
  have B:=vS h;subst B;have I:o=K:=by simpa[find] using h
  subst I;exact F
 apart:=λi j L N G H D=>absurd ((vS G).trans (vS H).symm) D
 keep:=λ_ _ _=>rfl
 fix:=λ_ _ _ _=>rfl
 os:=rfl
 tape:=rfl
 output:=rfl
 grown:=aZ _
 drawn:=λh=>h.elim
def sort80 {μ:Mu} {z:Nat->Value} {w:World} {l:List (List UInt8)} (hlen:l.length<=1073741824) (D:L0 μ w) (Q:nY w.heap.size (iq False z [10000]) μ z w 10000 (.row 9 1 (l.map pE))):
  Calls P 229 #[z 10000] w λe I=>∃v μ' loc',e= .returned v/\fL False μ z [10000] (.gX []) [(10000, .row 9 1 ((tR Op.bytesLess l).map pE))] w v μ' loc' I:=by
 have R:=Q;obtain⟨vs,U,hrc,Xx⟩:=R;have hvs:=Dd.1 hrc;rcases U.2 with⟨e1,h0⟩|⟨g,K,cur,e1,_,hg,B,O,V,q⟩
 .have hl:l=[]:=by
   cases l with
   |nil=>rfl
   |cons a b=>simp at h0
  subst hl;have hc:Calls P 229 #[.slice none 0 0] w λe I=>e= .returned (.tuple #[])/\I=w:=Any.slices_Sort_string_none Tryz.lays190 none 0 w
  rw[e1];refine hc.mono ?_;rintro e I ⟨rfl,rfl⟩;exact⟨_,μ,z,rfl,Nz D Q⟩
 .have hll:(l.map pE).length=l.length:=ai;rw[hll] at e1 B q;rw[zu] at V q;rw[hvs] at q;have hin:mG (z 10000) g:=by rw[e1];exact iS.2 rfl
  obtain⟨G,IA⟩:=Xx g hin;have hlt:g<w.heap.size:=(mE.1 hg).1;have F:∀(j:Nat) (L:j<l.length),cur[j]? =some (encStr l[j]):=by
   intro j L;have h1:(cur.toList.take l.length)[j]? =some (encStr l[j]):=by rw[q,dK,aM L];rfl
   rw[oU,aB L] at h1;simpa using h1
  have hH:Go.Sort.Holds encStr w g 0 l.toArray:=by
   intro j L;have N:j<l.length:=by simpa using L
   have hcj:=F j N;rw[eO];refine⟨?_,?_⟩
   .unfold World.cell?;simp only[hg];simp[hcj,N]
   .unfold World.frozen?;simp[hg]
  have hc:Calls P 229 #[.slice (some ⟨g,0,none⟩) l.length K] w λe I=>e= .returned (.tuple #[])/\∃n os,I=Go.Sort.grow (Go.Sort.putRow encStr (Go.Sort.ahead w n) g 0 (l.mergeSort λx y=>decide (x<=y)).toArray) os:=Any.slices_Sort_string Tryz.lays190 g 0 K l w hH hlt af
  rw[e1];refine hc.mono ?_;rintro e I ⟨rfl,n,os,rfl⟩;rw[Tk];have H:(tR Op.bytesLess l).length=l.length:=(BG Op.bytesLess (λa b h=>Bk h) US l).2.length_eq;obtain⟨k1,k2,k3⟩:=JX (enc:=encStr) (n:=n) (d:=(tR Op.bytesLess l).toArray) (os:=os) hg;obtain⟨t1,t2⟩:=Ui (enc:=encStr) (l:=tR Op.bytesLess l) (cur:=cur) af;refine⟨_,μ,z,rfl,NB (cur:=cur) (us:=(tR Op.bytesLess l).map encStr) D e1 B O (by rw[zu];exact V) G IA k1 t1 (by rw[zu,<-H];exact t2) (by simp[H]) k2 rfl rfl rfl k3 (by simp[H]) (Dd.2 rfl)⟩
end Go.Proofs.YthphfjcnkinkpaaGreatDoor.cl
set_option maxRecDepth 100000
namespace Go.Proofs.YthphfjcnkinkpaaGreatDoor.cl.cq
open Go Go.AM
def gR:eN:=λ_ _ _=>none
abbrev Hq:Nat->Hint:=H
noncomputable abbrev Rn:eN:=run P Hq gR
def Q0:Int->AV:=(λ(x:Int)=>((.int .i64 x):AV))
instance:fq Q0:=⟨λa b h=>by
 simp only[Q0,AV.mp.injEq,AV.int.injEq,AV.str.injEq,AV.bool.injEq,AV.dG.injEq,AV.agg.injEq,AV.gX.injEq,cV,eH,eP] at h
 exact h⟩
def Q1:Bool->AV:=(λ(x:Bool)=>((.bool x):AV))
instance:fq Q1:=⟨λa b h=>by
 simp only[Q1,AV.mp.injEq,AV.int.injEq,AV.str.injEq,AV.bool.injEq,AV.dG.injEq,AV.agg.injEq,AV.gX.injEq,cV,eH,eP] at h
 exact h⟩
def ress:List (Nat×xH):=[(201,⟨_,Q0⟩),(147,⟨_,Q0⟩),(244,⟨_,Q1⟩)]
def yl:ni:={ elem:=Hf elems,val:=Hf vals,res:=Hf ress }
noncomputable def f464 (l q:Int):Option Int:=dec (EN Q0) (Rn 201 [(.pv (.int .i64 l)),(.pv (.int .i64 q))] [])
noncomputable def f495 (l q:cz):Option Int:=dec (EN Q0) (Rn 147 [(.pv (.agg (cz.enc l))),(.pv (.agg (cz.enc q)))] [])
noncomputable def f469 (l:Int):Option Bool:=dec (EN Q1) (Rn 244 [(.pv (.int .i64 l))] [])
def e464 (w z:Int) {r:Int}
 (h:(
 Option.bind (f469 w) λq=>
 Option.bind (f469 z) λl=>
 bif q then(
 bif l then(
 some 0)
 else(
 some (-1)))
 else(
 bif l then(
 some 1)
 else(
 bif(decide (w<z)) then(
 some (-1))
 else(
 bif(decide (w>z)) then(
 some 1)
 else(
 some 0)))):Option Int)=some r):
 f464 w z=some r:=
 rA (E:=(EN Q0)) h (
 Ik λq=>
 Ik λl=>
 Ic (
 Ic (
 Is) (
 Is)) (
 Ic (
 Is) (
 Ic (
 Is) (
 Ic (
 Is) (
 Is)))))
 (by kernel_rfl) (λh=>sI (C:=yl) rfl h)
def e495 (q w:cz) {r:Int}
 (h:(
 Option.bind (f464 q.bw w.bw) λl=>
 some l:Option Int)=some r):
 f495 q w=some r:=
 rA (E:=(EN Q0)) h (
 Ik λl=>
 Is)
 (by kernel_rfl) (λh=>sI (C:=yl) rfl h)
def e469 (l:Int) {r:Bool}
 (h:(
 some (l !=l):Option Bool)=some r):
 f469 l=some r:=
 rA (E:=(EN Q1)) h (
 Is)
 (by kernel_rfl) (λh=>sI (C:=yl) rfl h)
end Go.Proofs.YthphfjcnkinkpaaGreatDoor.cl.cq
namespace Go.Proofs.YthphfjcnkinkpaaGreatDoor.cl
open Go Go.AM
namespace cq
def h96:∀x:Int,f469 x=some false:=λx=>e469 _ ai
def h50:∀x y:Int,f464 x y=some (if x<y then-1 else if y<x then 1 else 0):=by
 intro x y;refine e464 _ _ ?_;rw[h96,aj,h96,aj,aA,aA];by_cases l:x<y
 .rw[cond_pos (by simpa using l),aB l]
 .rw[cond_neg (by simpa using l),az l];by_cases q:y<x
  .rw[cond_pos (by simpa using q),aB q]
  .rw[cond_neg (by simpa using q),az q]
def arc (p:Int×Int):cz:=⟨p.1,p.2⟩
def i495 (p q:Int×Int):f495 (arc p) (arc q)=some (if p.1<q.1 then-1 else if q.1<p.1 then 1 else 0):=by refine e495 _ _ ?_;show Option.bind (f464 p.1 q.1) _=_;rw[h50,aj]
end cq
end Go.Proofs.YthphfjcnkinkpaaGreatDoor.cl
namespace Go.Proofs.YthphfjcnkinkpaaGreatDoor.cl
open Go Go.AM Go.RowKit
def ok:DK P=true:=by kernel_rfl
def qi {g:Nat} {fn:Func} (B:P.funcs[g]? =some fn) (D:¬(fn.name= "runtime.NumGoroutine")) (w:fn.body.isSome=true) (l:Array Value) (q:World):(callFunc g l).run P q= .ok (.enter g l) q:=by obtain⟨c,z⟩:=q8.1 w;simp[callFunc,B,D,z]
def abL (f:Nat):(H f).blk=[]:=by
 have key:∀(l:List (Nat×Hint)),(l.all λp=>p.2.blk.isEmpty)=true->∀f,((find l f).getD {}).blk=[]:=by intro l;induction l with
  |nil=>intro _ f;rfl
  |cons p l q=>intro h f;rw[lZ,aV] at h;simp only[find];cases w:Nat.beq p.1 f with
   |true=>rw[ak];exact y7.1 h.1
   |false=>rw[aA];exact q h.2 f
 exact key hints (by kernel_rfl) f
def aaJ:∀f fn c,P.funcs[f]? =some fn->fn.body=some c->q7 True (λ_ _=>none) P (H f) fn.ntmps c:=λf fn c _ _=>q7.none (abL f) c
def none_ok:iz True (λ_ _=>none) P cq.gR:=λg args cG r l q=>by cases q
structure SK where
 T:Type
 enc:T->List AV
 good:T->Prop
 c:T->T->Int
 ty:Nat
 cm:Nat
 two:∀x,∃a b,enc x=[a,b]
 asy:∀p q,c p q<0->¬c q p<0
 up:∀x y z,c x y<0->¬c z y<0->c x z<0
 nul:∀μ:Mu,∃p us,lF μ (enc p) us/\good p
 runs:∀x y,good x->good y->cq.Rn cm [(.pv (.agg (enc x))),(.pv (.agg (enc y)))] []=some (.int .i64 (c x y),[])
 enters:∀(us:Array Value) (w2:World),(callFunc cm us).run P w2= .ok (.enter cm us) w2
abbrev Al (S:SK) (μ:Mu):Type:={ x:S.T×List Value // lF μ (S.enc x.1) x.2/\S.good x.1 }
variable {S:SK}
noncomputable instance (μ:Mu):Inhabited (Al S μ):=⟨Classical.choice (by
 obtain⟨p,l,h⟩:=S.nul μ
 exact⟨⟨(p,l),h⟩⟩)⟩
def Al.cells {μ:Mu} (x:Al S μ):List Value:=x.1.2
def Al.len {μ:Mu} (x:Al S μ):x.cells.length=2:=by obtain⟨⟨p,z⟩,⟨h,_⟩,_⟩:=x;obtain⟨a,b,e⟩:=S.two p;have w:cS μ (S.enc p) z:=h;rw[e] at w;obtain⟨u,H,D,_,⟨G,q,B,_,l⟩⟩:=w;have F:q=[]:=l;show z.length=2;rw[D,B,F];rfl
def Al.one {μ:Mu} (x:Al S μ):∀v∈x.cells,v.oneCell'=true:=x.2.1.2
def Al.cf {μ:Mu} (x y:Al S μ):Int:=S.c x.1.1 y.1.1
def SK.lt (S:SK) (x y:S.T):Bool:=decide (S.c x y<0)
def swo {μ:Mu}:Go.Sort.SWO (ltOf (Al.cf (S:=S) (μ:=μ))) where
 irrefl x:=by show decide (S.c x.1.1 x.1.1<0)=false;exact u7 λh=>S.asy _ _ h h
 trans x y z h1 h2:=by have l:S.c x.1.1 y.1.1<0:=lX h1;have q:S.c y.1.1 z.1.1<0:=lX h2;exact qb (S.up _ _ _ l (S.asy _ _ q))
 ntrans x y z h1 h2:=by have l:¬S.c x.1.1 y.1.1<0:=zw h1;have q:¬S.c y.1.1 z.1.1<0:=zw h2;exact u7 λw=>l (S.up _ _ _ w q)
def cmp48 {D:Mu} {W:World} (B:L0 D W) (x y:Al S D):Calls P S.cm #[.agg x.cells.toArray, .agg y.cells.toArray] W λe l=>e= .returned (.int .i64 (Al.cf x y))/\∃q F,l=Go.Sort.grow (W.drewN q) F:=by
 have U:=S.runs x.1.1 y.1.1 x.2.2 y.2.2
 have V:=(iz.noY (Ny (q:=True) (B:=λ_ _=>none) ok aaJ none_ok S.cm _ [] _ _ U W D (λ_=>undef) [.agg x.cells.toArray, .agg y.cells.toArray] (λ_ _ _ h=>by cases h) B (λid o h=>by cases h) (λi j oi oj h=>by cases h)
  ⟨_,_,rfl,(by show rep D (.agg (S.enc x.1.1)) _;rw[rep];exact⟨_,rfl,x.2.1.1,x.2.1.2⟩),_,_,rfl,(by show rep D (.agg (S.enc y.1.1)) _;rw[rep];exact⟨_,rfl,y.2.1.1,y.2.1.2⟩),rfl⟩) λxs h=>by cases h).2
 refine V.mono ?_;rintro e l ⟨v,μ',Q,rfl,w⟩;have O:=w.pure rfl;rw[rep] at O;subst O;refine⟨rfl,l.drawn-W.drawn,l.heap.extract W.heap.size l.heap.size,?_⟩;have hd:=w.drawn trivial;have z:l.heap=W.heap++l.heap.extract W.heap.size l.heap.size:=by
  apply Array.ext_getElem?;intro b;by_cases N:b<W.heap.size
  .rw[uL N];exact w.keep b N (by rintro⟨id,v,h,_⟩;simp[iq] at h)
  .rw[Array.getElem?_append_right af,Array.getElem?_extract];have hg:=w.grown;by_cases R:b<l.heap.size
   .rw[aB af,show W.heap.size+(b-W.heap.size)=b by omega]
   .rw[az af,Array.getElem?_eq_none af]
 have ext:∀{a b:World},a.heap=b.heap->a.tape=b.tape->a.drawn=b.drawn->a.os=b.os->a.output=b.output->a=b:=by intro a b G H I K L;cases a;cases b;simp only at G H I K L;subst G H I K L;rfl
 exact ext z w.tape (show l.drawn=W.drawn+(l.drawn-W.drawn) by omega) w.os w.output
end Go.Proofs.YthphfjcnkinkpaaGreatDoor.cl
namespace Go.Proofs.YthphfjcnkinkpaaGreatDoor.cl
open Go Go.AM Go.RowKit
open Go.Sort (flatK size_flatK get_flatK ext_get!)
variable {S:SK}
theorem aaE {D:Mu}:∀{l:List S.T} {z:List Value},(∀p∈l,S.good p)->dc D 2 (l.map S.enc) z->∃w:List (Al S D),w.map (λx=>x.1.1)=l/\z=(w.map Al.cells).flatten:=by intro l;induction l with
 |nil=>intro z _ h;exact⟨[],rfl,h⟩
 |cons p l K=>
  intro z B h;obtain⟨L,ws,rfl,G,N,H⟩:=h;obtain⟨w,e1,F⟩:=K (λq I=>B q (by simp[I])) H;refine⟨⟨(p,L),G,B p ai⟩::w,?_,?_⟩
  .rw[bS,e1]
  .rw[bS,u9,F];rfl
def adP {q:Mu}:∀(l:List (Al S q)),dc q 2 (l.map λx=>S.enc x.1.1) (l.map Al.cells).flatten:=by intro l;induction l with
 |nil=>rfl
 |cons x l w=>exact⟨x.cells,(l.map Al.cells).flatten,rfl,x.2.1,x.len,w⟩
def EC {w:Mu} (l:List (Al S w)):(l.map Al.cells).flatten.length=l.length *2:=by induction l with
 |nil=>rfl
 |cons x l q=>rw[bS,u9,cE,q,x.len,bD];omega
def abu {B:Mu}:∀(l:List (Al S B)) (t:Nat),t<l.length *2->(l.map Al.cells).flatten[t]! =(l[t / 2]!).cells[t % 2]! :=by intro l;induction l with
 |nil=>intro t h;simp at h
 |cons x l z=>
  intro t h;have w:=x.len;have F:=EC l;rw[bD] at h;rw[bS,u9];by_cases D:t<2
  .have e1:t / 2=0:=af;have q:t % 2=t:=af;rw[e1,q,qc,fV af];simp[qc]
  .obtain⟨s,rfl⟩:∃s,t=s+2:=⟨t-2,af⟩
   have e1:(s+2) / 2=s / 2+1:=af;have q:(s+2) % 2=s % 2:=af;have:=z s af;rw[qc] at this;rw[e1,q,qc,gD af,w,show s+2-2=s by omega,this];simp[qc]
def Ss {μ:Mu} (l:List (Al S μ)):flatK Al.cells 2 l.toArray=(l.map Al.cells).flatten.toArray:=by
 refine ext_get! (by simp only[size_flatK,rj];exact(EC l).symm) λt w=> ?_
 have q:t<l.length *2:=by simpa using w
 rw[get_flatK _ _ _ t (by simpa using q)];have:=abu l t q;simp only[Ec] at this⊢;exact this.symm
def SK.lt_asymm (S:SK) (p q:S.T) (h:S.lt p q=true):S.lt q p=false:=u7 (S.asy _ _ (lX h))
def SK.lt_up (S:SK) (x y z:S.T) (h:S.lt x y=true) (l:S.lt z y=false):S.lt x z=true:=qb (S.up _ _ _ (lX h) (zw l))
def WK {I:Mu} {l:List S.T} (V:∀x∈l,∀y∈l,S.lt x y=false->S.lt y x=false->x=y) {q:List (Al S I)} (e:q.map (λx=>x.1.1)=l) {w:Array (Al S I)} (U:Go.Sort.PermIn 0 q.toArray.size q.toArray w) (H:Go.Sort.SortedIn (ltOf Al.cf) 0 q.toArray.size w):
  w.toList.map (λx=>x.1.1)=tR S.lt l/\w.toList.length=q.length:=by
 obtain⟨K,_,L⟩:=U;have D:w.size=q.length:=by simpa using K
 have N:w.toList.Perm q:=by
  have O:w.extract 0 q.toArray.size=w:=by rw[<-K];simp
  have P:q.toArray.extract 0 q.toArray.size=q.toArray:=ai;rw[O,P] at L;simpa using L
 refine⟨?_,by simpa using D⟩;obtain⟨s1,s2⟩:=BG S.lt S.lt_asymm S.lt_up l;have z:(w.toList.map λx=>x.1.1).Perm l:=by rw[<-e];exact N.map _
 refine HJ (lt:=S.lt) (z.trans s2.symm) ?_ s1 ?_
 .unfold mO;rw[jd,nQ];intro i j Q R G;have F:i<w.size:=by simpa using Q
  have B:j<w.size:=by simpa using R
  have:=H i j (cZ _) G (by simpa[D] using B);rw[show ltOf Al.cf=λx y:Al S I=>S.lt x.1.1 y.1.1 from rfl,getElem!_pos w j B,getElem!_pos w i F] at this;simpa using this
 .intro x hx y hy;exact V x (z.mem_iff.1 hx) y (z.mem_iff.1 hy)
def sort47 {μ:Mu} {F:Nat->Value} {w:World} {l:List S.T} {R:Go.Shelf.Ren} (L:SlLaysF0.n6 P R) (aE:∀w,(isAgg (R.t 24)).run P w= .ok true w) (zE:∀w,(Go.sizeOf (R.t 24)).run P w= .ok 2 w) (hlen:l.length<=1073741824) (hst:∀x∈l,∀y∈l,S.lt x y=false->S.lt y x=false->x=y) (hw:∀p∈l,S.good p) (H:L0 μ w) (sY:nY w.heap.size (iq False F [10000]) μ F w 10000 (.row S.ty 2 (l.map S.enc))):
  Calls P (R.f 6) #[F 10000, .func (.func S.cm) #[] #[]] w λe I=>∃v μ' loc',e= .returned v/\fL False μ F [10000] (.gX []) [(10000, .row S.ty 2 ((tR S.lt l).map S.enc))] w v μ' loc' I:=by
 have JZ:=sY;obtain⟨vs,hown,hrc,Xx⟩:=JZ;rcases hown.2 with⟨e1,h0⟩|⟨g,N,cur,e1,_,hg,K,hmax,hsz,D⟩
 .have hl:l=[]:=by
   cases l with
   |nil=>rfl
   |cons a b=>simp at h0
  subst hl;have hc:Calls P (R.f 6) #[.slice none 0 0, .func (.func S.cm) #[] #[]] w λe I=>e= .returned (.tuple #[])/\I=w:=AnyF.slices_SortFunc_none L none 0 _ w
  rw[e1];refine hc.mono ?_;rintro e I ⟨rfl,rfl⟩;exact⟨_,μ,F,rfl,Nz H sY⟩
 .obtain⟨q,U,ha2⟩:=aaE hw hrc;have hal:q.length=l.length:=by rw[<-U];simp
  have hll:(l.map S.enc).length=q.length:=by simp[hal]
  rw[hll] at e1 K D;rw[ha2] at D;have hfl:=EC q;have hin:mG (F 10000) g:=by rw[e1];exact iS.2 rfl
  obtain⟨Q,IA⟩:=Xx g hin;have hlt:g<w.heap.size:=(mE.1 hg).1;have O:∀(j:Nat),j<q.length *2->cur[j]? =(q.map Al.cells).flatten[j]? :=by
   intro j hj;have h1:(cur.toList.take (q.length *2))[j]? =(q.map Al.cells).flatten[j]? :=by rw[D]
   rw[oU,aB hj] at h1;simpa using h1
  have hH:Go.Sort.HoldsK Al.cells 2 w g 0 q.toArray:=by
   intro j hj;rw[Ss] at hj⊢;have hj':j<q.length *2:=by rw[<-hfl];simpa using hj
   have V:=O j hj';have hjf:j<(q.map Al.cells).flatten.length:=af;rw[aM hjf] at V;rw[eO];refine⟨?_,?_⟩
   .unfold World.cell?;simp only[hg];rw[Ec,qc,aM hjf];simp[V]
   .unfold World.frozen?;simp[hg]
  have hcmp:CmpLays P S.cm #[] (Al.cells (S:=S) (μ:=μ)) 2 Al.cf g 0 q.toArray.size w:=by
   intro m os dk hdk x y;refine cmp48 (W:=sortWorldK Al.cells 2 w g 0 m dk os) ?_ x y;obtain⟨_,k2,_⟩:=JX (enc:=id) (n:=m) (d:=flatK Al.cells 2 dk) (os:=os) hg;intro b j z hz;have h:=H b j z hz;have hne:b≠g:=λe=>by subst e;rw[IA j] at hz;cases hz
   exact(ji (k2 b (sO h) hne) j).trans h
  have hc:Calls P (R.f 6) #[.slice (some ⟨g,0,none⟩) q.toArray.size N, .func (.func S.cm) #[] #[]] w λe I=>e= .returned (.tuple #[])/\∃B n os,Go.Sort.PermIn 0 q.toArray.size q.toArray B/\Go.Sort.SortedIn (ltOf Al.cf) 0 q.toArray.size B/\I=sortWorldK Al.cells 2 w g 0 n B os:=
   AnyQ.slices_SortFunc L 2 aE zE Al.cells Al.len Al.one Al.cf swo S.cm #[] g 0 N q.toArray w S.enters hcmp hH hlt aI
  have hc':Calls P (R.f 6) #[.slice (some ⟨g,0,none⟩) q.length N, .func (.func S.cm) #[] #[]] w λe I=>e= .returned (.tuple #[])/\∃B n os,Go.Sort.PermIn 0 q.toArray.size q.toArray B/\Go.Sort.SortedIn (ltOf Al.cf) 0 q.toArray.size B/\I=sortWorldK Al.cells 2 w g 0 n B os:=by simpa using hc
  rw[e1];refine hc'.mono ?_;rintro e I ⟨rfl,B,n,os,hp,hso,rfl⟩;obtain⟨q1,q2⟩:=WK hst U hp hso;have G:=EC B.toList;have hfa:flatK Al.cells 2 B=(B.toList.map Al.cells).flatten.toArray:=by have:=Ss B.toList;simpa using this
  obtain⟨k1,k2,k3⟩:=JX (enc:=id) (n:=n) (d:=flatK Al.cells 2 B) (os:=os) hg;obtain⟨t1,t2⟩:=Ui (enc:=id) (l:=(B.toList.map Al.cells).flatten) (cur:=cur) (by rw[G,q2,hsz];omega);rw[<-hfa] at t1 t2;rw[pY] at t2;have hil:(tR S.lt l).length=q.length:=by rw[<-q1,bz,q2]
  refine⟨_,μ,F,rfl,NB (cur:=cur) (us:=(B.toList.map Al.cells).flatten) H e1 K hmax hsz Q IA k1 t1 (by rw[<-q2,<-G];exact t2) (by rw[G,q2]) k2 rfl rfl rfl k3 (by rw[bz,hil]) ?_⟩;rw[<-q1,e8];exact adP B.toList
def MJ:∀{xs:List (List AV)} {l:List (Int×Int)},Bh xs=some l->xs=l.map Sg
 |[],l,h=>by
  have:l=[]:=(fR h).symm
  subst this;rfl
 |[.int .i64 f, .int .i64 t]::xs,l,h=>by have h:(Bh xs).map ((f,t):: ·)=some l:=h;obtain⟨m,q,rfl⟩:=cH.1 h;rw[MJ q];rfl
def YY {l:List (Int×Int)} (h:Bg l=true):∀x∈l,∀y∈l,V7 x y=false->V7 y x=false->x=y:=by induction l with
 |nil=>intro x G;cases G
 |cons a l K=>
  unfold Bg at h;simp only[aV,cI,gE] at h;intro x G y I D F;rcases aS.1 G with H|z
  .rcases aS.1 I with B|w
   .rw[H,B]
   .subst H;rcases h.1 y w with q|q
    .rw[D] at q;cases q
    .rw[F] at q;cases q
  .rcases aS.1 I with B|w
   .subst B;rcases h.1 x z with q|q
    .rw[F] at q;cases q
    .rw[D] at q;cases q
   .exact K h.2 x z y w D F
def cA (p q:Int×Int):Int:=if p.1<q.1 then-1 else if q.1<p.1 then 1 else 0
def U0 {p q:Int×Int}:cA p q<0↔p.1<q.1:=by
 unfold cA;split
 .simp[*]
 .split<;>simp[*]
abbrev SKa:SK where
 T:=Int×Int
 enc:=Sg
 good _:=True
 c:=cA
 ty:=68
 cm:=147
 two p:=⟨_,_,rfl⟩
 asy p q h h':=by rw[U0] at h h';omega
 up x y z h h':=by rw[U0] at *;omega
 nul μ:=⟨(0,0),[.int .i64 0, .int .i64 0],⟨⟨_,_,rfl,by rw[rep],⟨_,_,rfl,by rw[rep],rfl⟩⟩,λu l=>by
  simp only[aS,nG,pZ] at l
  rcases l with rfl|rfl<;>rfl⟩,trivial⟩
 runs x y _ _:=jM (EN cq.Q0) (cq.Rn 147 [(.pv (.agg (cz.enc (cq.arc x)))),(.pv (.agg (cz.enc (cq.arc y))))] []) _ (cq.i495 x y)
 enters:=qi Tryz.func147 (by decide) (by rfl)
def aaC:SKa.lt=V7:=by
 funext p q;have h:SKa.c=cA:=by simp only[SKa]
 unfold SK.lt V7;rw[h,uV];exact U0
end Go.Proofs.YthphfjcnkinkpaaGreatDoor.cl
set_option maxRecDepth 100000
set_option maxHeartbeats 2000000
namespace Go.Proofs.YthphfjcnkinkpaaGreatDoor.cl
open Go Go.AM Go.RowKit
def tV {H:Mu} {G:Nat->Value} {w Q:World} {e K:Nat} {xs:List (List AV)} {v:Value} {vs:List Value} {q:Qp} (V:q.p->False) (z:L0 H w) (B:Below w.heap.size w Q) (l:Q.ownsRow w.heap.size e K v xs.length vs) (P:dc H K xs vs):
  fL q H G [] (.gX [.gX [.self e, .dG K xs]]) [] w v H G Q where
 ext:=Mu.ext.toL ⟨Mu.le.refl _,λ_ _ _ h=> .inl h⟩
 yc:=λb j x hx=>by have h:=z b j x hx;rw[ji (B.block b (sO h)) j];exact h
 res:= .inr (.inr (.inr ⟨e,K,xs,vs,rfl,by
  refine⟨l.1,?_⟩;rcases l.2 with h|⟨g,D,F,R,_,L⟩
  .exact .inl h
  .exact .inr ⟨g,D,F,R,cZ _,L⟩,P,λg I=>by
  have N:w.heap.size<=g:=by
   rcases l.2 with⟨h,_⟩|⟨g',D,F,h,L,_⟩
   .rw[h] at I;cases I
   .rw[h] at I;cases I;exact L
  refine⟨.inl N,λj=> ?_,λid o h=>by cases h⟩;cases U:H g j with
  |none=>rfl
  |some x=>have:=sO (z _ _ _ U);omega⟩))
 obs:=λid o h=>by cases h
 apart:=λi j oi oj h=>by cases h
 keep:=λb O _=>B.block b O
 fix:=λid h=>by cases h
 os:=B.os
 tape:=B.tape
 output:=B.output
 grown:=B.size
 drawn:=λh=>(V h).elim
theorem Em {D:Mu} {w:World} {I:Nat} {xs:List (List AV)} {a:Addr} (q:L0 D w) (N:xs.length=0\/∃b l,some a=some ⟨b,l,none⟩/\lH D I b xs l):
  ∃B,dc D I xs B/\(∀u∈B,u.oneCell'=true)/\∀j u,B[j]? =some u->w.cell? (a.add j)=some u:=by
 rcases N with L|⟨b,l,K,z⟩
 .have:xs=[]:=by simpa using L
  subst this;exact⟨[],rfl,by simp,ai⟩
 .cases K;obtain⟨B,H,O⟩:=uv z;have F:=kL H
  exact⟨B,H,F,λj u G=>by
   rw[zx]
   exact yK (q _ _ _ (O j u G)) (F u (aR G))⟩
def aa1 {μ:Mu} {loc:Nat->Value} {w:World} {xs:List (List AV)} {u:Value} {q:Qp} (hq:q.p->False) (oH:L0 μ w) (hu:rep μ (.dG 1 xs) u) (hbig:xs.length *8<=140737488355328):
  Calls P 197 #[u] w λe w'=>∃v μ' loc',e= .returned v/\fL q μ loc [] (.gX [.gX [.self 3, .dG 1 xs]]) [] w v μ' loc' w':=by
 rw[rep.eq_def] at hu;dsimp only at hu;obtain⟨A,c,rfl,hc1,Vr,hA⟩:=hu;have qn:∀(w:World) (a:Option Addr) (n c n' c':Nat),(binOp .eql 51 (.slice a n c) (.slice none n' c')).run P w= .ok (.bool a.isNone) w:=λw a n c n' c'=>Lib.run_eql_slice_nil w _ _ a n c n' c' Tryz.underlying51
 cases A with
 |none=>
  have h0:xs=[]:=by
   rcases hA with h|⟨b,off,e,_⟩
   .simpa using h
   .cases e
  subst h0
  go_enter Tryz.func197,Tryz.ntmps197
  go_wp2
  go_ret
  exact⟨_,μ,loc,rfl,tV hq oH (ic _ _) (vs:=[]) ⟨rfl, .inl ⟨rfl,rfl⟩⟩ rfl⟩
 |some a=>
  obtain⟨us,BE,h1,hcell⟩:=Em oH hA;have Ho:=dg BE;obtain⟨i0,hi,UA,hz1,hz2⟩:=info_parts (show(P.info? 3).map (λi=>(i.zero,i.size,i.bytes))=some (some (.int .i64 0),1,8) by kernel_rfl);have u107:∀w,Sem.run P (underlying 51) w= .ok (TypeDesc.slice 3) w:=bW Tryz.underlying51
  go_enter Tryz.func197,Tryz.ntmps197
  go_wp2_with (at_builtin;refine vc _ rfl _ _ 51 rfl w.heap.size 3 i0 (.int .i64 0) 1 8 Tryz.underlying51 hi UA hz1 hz2 rfl (by decide) _ _ _ rfl (ve w #[] 0 (aZ _) (cZ _) rfl) a xs.length c us rfl ?qc1 ?qc2 h1 ?qc4 ?qc5 ?qc6 ?_)
  case qc1=>exact Ho
  case qc2=>exact λj u hj=>Lib.cell?_alloc_some _ (hcell j u hj)
  case qc4=>omega
  case qc5=>omega
  case qc6=>simp
  intro v' w1 hown hgrow JY
  go_wp2
  go_ret
  exact⟨_,μ,loc,rfl,tV hq oH (((ic _ w).alloc (aZ _) _).grown hgrow ai (by intro k hk;simp[Value.ownBlock] at hk;omega)) (by simpa using hown) BE⟩
def aa0 {μ:Mu} {loc:Nat->Value} {w:World} {xs:List (List AV)} {u:Value} {q:Qp} (hq:q.p->False) (oH:L0 μ w) (hu:rep μ (.dG 2 xs) u) (hbig:xs.length *32<=140737488355328):
  Calls P 44 #[u] w λe w'=>∃v μ' loc',e= .returned v/\fL q μ loc [] (.gX [.gX [.self 71, .dG 2 xs]]) [] w v μ' loc' w':=by
 rw[rep.eq_def] at hu;dsimp only at hu;obtain⟨A,c,rfl,hc1,Vr,hA⟩:=hu;have qn:∀(w:World) (a:Option Addr) (n c n' c':Nat),(binOp .eql 28 (.slice a n c) (.slice none n' c')).run P w= .ok (.bool a.isNone) w:=λw a n c n' c'=>Lib.run_eql_slice_nil w _ _ a n c n' c' Tryz.underlying28
 cases A with
 |none=>
  have h0:xs=[]:=by
   rcases hA with h|⟨b,off,e,_⟩
   .simpa using h
   .cases e
  subst h0
  go_enter Tryz.func44,Tryz.ntmps44
  go_wp2
  go_ret
  exact⟨_,μ,loc,rfl,tV hq oH (ic _ _) (vs:=[]) ⟨rfl, .inl ⟨rfl,rfl⟩⟩ rfl⟩
 |some a=>
  obtain⟨us,BE,h1,hcell⟩:=Em oH hA;have Ho:=dg BE;obtain⟨i0,hi,UA,hz1,hz2⟩:=info_parts (show(P.info? 71).map (λi=>(i.zero,i.size,i.bytes))=some (some (.agg #[.int .i64 0, .slice none 0 0]),2,32) by kernel_rfl);have u28:∀w,Sem.run P (underlying 28) w= .ok (TypeDesc.slice 71) w:=bW Tryz.underlying28
  go_enter Tryz.func44,Tryz.ntmps44
  go_wp2_with (at_builtin;refine vc _ rfl _ _ 28 rfl w.heap.size 71 i0 (.agg #[.int .i64 0, .slice none 0 0]) 2 32 Tryz.underlying28 hi UA hz1 hz2 rfl (by decide) _ _ _ rfl (ve w #[] 0 (aZ _) (cZ _) rfl) a xs.length c us rfl ?qc1 ?qc2 h1 ?qc4 ?qc5 ?qc6 ?_)
  case qc1=>exact Ho
  case qc2=>exact λj u hj=>Lib.cell?_alloc_some _ (hcell j u hj)
  case qc4=>omega
  case qc5=>omega
  case qc6=>simp
  intro v' w1 hown hgrow JY
  go_wp2
  go_ret
  exact⟨_,μ,loc,rfl,tV hq oH (((ic _ w).alloc (aZ _) _).grown hgrow ai (by intro k hk;simp[Value.ownBlock] at hk;omega)) (by simpa using hown) BE⟩
def clone31 {μ:Mu} {loc:Nat->Value} {w:World} {xs:List (List AV)} {u:Value} {q:Qp} (hq:q.p->False) (oH:L0 μ w) (hu:rep μ (.dG 3 xs) u) (hbig:xs.length *64<=140737488355328):
  Calls P 72 #[u] w λe w'=>∃v μ' loc',e= .returned v/\fL q μ loc [] (.gX [.gX [.self 76, .dG 3 xs]]) [] w v μ' loc' w':=by
 rw[rep.eq_def] at hu;dsimp only at hu;obtain⟨A,c,rfl,hc1,Vr,hA⟩:=hu;have qn:∀(w:World) (a:Option Addr) (n c n' c':Nat),(binOp .eql 38 (.slice a n c) (.slice none n' c')).run P w= .ok (.bool a.isNone) w:=λw a n c n' c'=>Lib.run_eql_slice_nil w _ _ a n c n' c' Tryz.underlying38
 cases A with
 |none=>
  have h0:xs=[]:=by
   rcases hA with h|⟨b,off,e,_⟩
   .simpa using h
   .cases e
  subst h0
  go_enter Tryz.func72,Tryz.ntmps72
  go_wp2
  go_ret
  exact⟨_,μ,loc,rfl,tV hq oH (ic _ _) (vs:=[]) ⟨rfl, .inl ⟨rfl,rfl⟩⟩ rfl⟩
 |some a=>
  obtain⟨us,BE,h1,hcell⟩:=Em oH hA;have Ho:=dg BE;obtain⟨i0,hi,UA,hz1,hz2⟩:=info_parts (show(P.info? 76).map (λi=>(i.zero,i.size,i.bytes))=some (some (.agg #[.string ⟨#[]⟩, .slice none 0 0, .slice none 0 0]),3,64) by kernel_rfl);have u38:∀w,Sem.run P (underlying 38) w= .ok (TypeDesc.slice 76) w:=bW Tryz.underlying38
  go_enter Tryz.func72,Tryz.ntmps72
  go_wp2_with (at_builtin;refine vc _ rfl _ _ 38 rfl w.heap.size 76 i0 (.agg #[.string ⟨#[]⟩, .slice none 0 0, .slice none 0 0]) 3 64 Tryz.underlying38 hi UA hz1 hz2 rfl (by decide) _ _ _ rfl (ve w #[] 0 (aZ _) (cZ _) rfl) a xs.length c us rfl ?qc1 ?qc2 h1 ?qc4 ?qc5 ?qc6 ?_)
  case qc1=>exact Ho
  case qc2=>exact λj u hj=>Lib.cell?_alloc_some _ (hcell j u hj)
  case qc4=>omega
  case qc5=>omega
  case qc6=>simp
  intro v' w1 hown hgrow JY
  go_wp2
  go_ret
  exact⟨_,μ,loc,rfl,tV hq oH (((ic _ w).alloc (aZ _) _).grown hgrow ai (by intro k hk;simp[Value.ownBlock] at hk;omega)) (by simpa using hown) BE⟩
def clone62 {μ:Mu} {loc:Nat->Value} {w:World} {xs:List (List AV)} {u:Value} {q:Qp} (hq:q.p->False) (oH:L0 μ w) (hu:rep μ (.dG 6 xs) u) (hbig:xs.length *112<=140737488355328):
  Calls P 116 #[u] w λe w'=>∃v μ' loc',e= .returned v/\fL q μ loc [] (.gX [.gX [.self 73, .dG 6 xs]]) [] w v μ' loc' w':=by
 rw[rep.eq_def] at hu;dsimp only at hu;obtain⟨A,c,rfl,hc1,Vr,hA⟩:=hu;have qn:∀(w:World) (a:Option Addr) (n c n' c':Nat),(binOp .eql 23 (.slice a n c) (.slice none n' c')).run P w= .ok (.bool a.isNone) w:=λw a n c n' c'=>Lib.run_eql_slice_nil w _ _ a n c n' c' Tryz.underlying23
 cases A with
 |none=>
  have h0:xs=[]:=by
   rcases hA with h|⟨b,off,e,_⟩
   .simpa using h
   .cases e
  subst h0
  go_enter Tryz.func116,Tryz.ntmps116
  go_wp2
  go_ret
  exact⟨_,μ,loc,rfl,tV hq oH (ic _ _) (vs:=[]) ⟨rfl, .inl ⟨rfl,rfl⟩⟩ rfl⟩
 |some a=>
  obtain⟨us,BE,h1,hcell⟩:=Em oH hA;have Ho:=dg BE;obtain⟨i0,hi,UA,hz1,hz2⟩:=info_parts (show(P.info? 73).map (λi=>(i.zero,i.size,i.bytes))=some (some (.agg #[.string ⟨#[]⟩, .int .i64 0, .string ⟨#[]⟩, .slice none 0 0, .slice none 0 0, .slice none 0 0]),6,112) by kernel_rfl);have u23:∀w,Sem.run P (underlying 23) w= .ok (TypeDesc.slice 73) w:=bW Tryz.underlying23
  go_enter Tryz.func116,Tryz.ntmps116
  go_wp2_with (at_builtin;refine vc _ rfl _ _ 23 rfl w.heap.size 73 i0 (.agg #[.string ⟨#[]⟩, .int .i64 0, .string ⟨#[]⟩, .slice none 0 0, .slice none 0 0, .slice none 0 0]) 6 112 Tryz.underlying23 hi UA hz1 hz2 rfl (by decide) _ _ _ rfl (ve w #[] 0 (aZ _) (cZ _) rfl) a xs.length c us rfl ?qc1 ?qc2 h1 ?qc4 ?qc5 ?qc6 ?_)
  case qc1=>exact Ho
  case qc2=>exact λj u hj=>Lib.cell?_alloc_some _ (hcell j u hj)
  case qc4=>omega
  case qc5=>omega
  case qc6=>simp
  intro v' w1 hown hgrow JY
  go_wp2
  go_ret
  exact⟨_,μ,loc,rfl,tV hq oH (((ic _ w).alloc (aZ _) _).grown hgrow ai (by intro k hk;simp[Value.ownBlock] at hk;omega)) (by simpa using hown) BE⟩
