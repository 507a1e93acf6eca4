/- The Closure laws. -/
import Derived.Test.YtmidjldjkbljjaaGreatDoorClQb
import Derived.Test.YtmidjldjkbljjaaGreatDoorClCr
import Derived.Test.YtmidjldjkbljjaaGreatDoorClT
import Derived.Test.YtmidjldjkbljjaaGreatDoorAmR
set_option linter.unusedVariables false
set_option linter.unusedSimpArgs false
namespace Go.Proofs.YtmidjldjkbljjaaGreatDoor.cl
open Go Go.AM Go.RowKit
theorem ok:xD P=true:=by kernel_rfl
theorem VC (f:Nat):(cq.Hq f).blk=[]:=by
 have key:∀(l:List (Nat×Hint)),(l.all fun p=>Nat.beq p.1 119||p.2.blk.isEmpty)=true→∀f,f≠119→((find l f).getD {}).blk=[]:=by
  intro l
  induction l with
  |nil=>intro _ f _;rfl
  |cons p l ih=>
   intro h f hf;rw [List.all_cons,Bool.and_eq_true,Bool.or_eq_true] at h;simp only [find];cases hb:Nat.beq p.1 f with
   |true=>
    rw [cond_true];rcases h.1 with h1|h1
    ·exact absurd ((Nat.eq_of_beq_eq_true hb).symm.trans (Nat.eq_of_beq_eq_true h1)) hf
    ·exact List.isEmpty_iff.1 h1
   |false=>rw [cond_false];exact ih h.2 f hf
 unfold cq.Hq;cases hb:Nat.beq f 119 with
 |true=>rfl
 |false=>
  rw [cond_false];exact key hints (by kernel_rfl) f fun e=>by rw [e] at hb;cases hb
theorem Oz:∀f fn c,P.funcs[f]? =some fn→fn.body=some c→ij True (fun _ _=>none) P (cq.Hq f) fn.ntmps c:=fun f fn c _ _=>ij.none (VC f) c
theorem S4:ez True (fun _ _=>none) P cq.c9:=fun g args bQ r dI hv=>by cases hv
def Good (μ:Mu) (x:iD×List Value):Prop:=gy μ (iD.enc x.1) x.2∧x.1.2<18446744073709551616
abbrev Al (μ:Mu):Type:={ x:iD×List Value // Good μ x }
instance (μ:Mu):Inhabited (Al μ):=⟨⟨(([],0),[.string ⟨#[]⟩, .slice none 0 0]),⟨⟨⟨_,_,rfl,by rw [rep],⟨_,_,rfl,by rw [rep];exact ⟨none,0,rfl,Nat.le_refl _,Nat.zero_le _, .inl rfl⟩,rfl⟩⟩,fun u hu=>by
 simp only [List.mem_cons,List.not_mem_nil,or_false] at hu
 rcases hu with rfl|rfl<;>rfl⟩,by decide⟩⟩⟩
def Al.cells {μ:Mu} (x:Al μ):List Value:=x.1.2
theorem Al.len {μ:Mu} (x:Al μ):x.cells.length=2:=by
 obtain ⟨⟨p,vs⟩,⟨h,_⟩,_⟩:=x;obtain ⟨u,us,e,_,⟨u',us',e',_,e''⟩⟩:=h;have e0:vs=u::us:=e;have e2:us'=[]:=e'';show vs.length=2;rw [e0,e',e2];rfl
theorem Al.one {μ:Mu} (x:Al μ):∀v∈x.cells,v.oneCell'=true:=x.2.1.2
def Al.cf {μ:Mu} (x y:Al μ):Int:=cq.MS x.1.1 y.1.1
theorem zH {μ:Mu} (x y:Al μ):ltOf Al.cf x y=yP x.1.1 y.1.1:=cq.Si _ _
theorem zG {p q:iD}:yP p q=true↔dG 64 q.2<dG 64 p.2∨(dG 64 p.2=dG 64 q.2∧Op.bytesLess p.1 q.1=true):=by
 unfold yP;rw [Bool.or_eq_true,Bool.and_eq_true];constructor
 ·rintro (h|⟨h1,h2⟩)
  ·exact .inl (Nat.le_of_ble_eq_true h)
  ·exact .inr ⟨Nat.eq_of_beq_eq_true h1,h2⟩
 ·rintro (h|⟨h1,h2⟩)
  ·exact .inl (Nat.ble_eq_true_of_le h)
  ·exact .inr ⟨by rw [h1];exact Nat.beq_refl _,h2⟩
theorem w9 (p q:iD) (h:yP p q=true):yP q p=false:=by
 apply Classical.byContradiction;intro hc;rw [Bool.not_eq_false,zG] at hc;rw [zG] at h;rcases h with h|⟨h1,h2⟩
 ·rcases hc with h'|⟨Jz,_⟩<;>omega
 ·rcases hc with h'|⟨Jz,Cf⟩
  ·omega
  ·rw [jr h2] at Cf;cases Cf
theorem Kq (x y z:iD) (h:yP x y=true) (h':yP z y=false):yP x z=true:=by
 rw [zG] at h⊢;have hn:¬(dG 64 y.2<dG 64 z.2∨(dG 64 z.2=dG 64 y.2∧Op.bytesLess z.1 y.1=true)):=fun hc=>by
  rw [←zG,h'] at hc;cases hc
 simp only [not_or,not_and] at hn;rcases h with h|⟨h1,h2⟩
 ·left;omega
 ·by_cases e:dG 64 z.2=dG 64 y.2
  ·right
   refine ⟨by omega,?_⟩;have hz:=hn.2 e;have WZ:Op.bytesLess z.1 y.1=false:=by simpa using hz
   exact wM _ _ _ h2 WZ
  ·left;omega
theorem Kp (p:iD):yP p p=false:=by
 cases h:yP p p with
 |false=>rfl
 |true=>rw [w9 p p h] at h;cases h
theorem swo {μ:Mu}:Go.Sort.SWO (ltOf (Al.cf (μ:=μ))) where
 irrefl x:=by rw [zH,Kp]
 trans x y z h1 h2:=by
  rw [zH] at *;exact Kq _ _ _ h1 (w9 _ _ h2)
 ntrans x y z h1 h2:=by
  rw [zH] at *;cases hc:yP x.1.1 z.1.1 with
  |false=>rfl
  |true=>
   have:=Kq _ _ _ hc h2;rw [h1] at this;cases this
theorem OT (p:iD):ak.enc (cq.tc p)=iD.enc p:=by
 show [AV.str p.1,AV.bS 1 ((cq.wl p.2).map (aD .u64))]=[AV.str p.1,AV.bS 1 (bif Nat.beq p.2 0 then [] else [[.int .u64 (p.2:Int)]])]
 unfold cq.wl;cases Nat.beq p.2 0<;>rfl
theorem Xr {μ:Mu} {W:World} (fJ:Oc μ W) (x y:Al μ):Calls P 90 #[.agg x.cells.toArray, .agg y.cells.toArray] W fun e w'=>e= .returned (.int .i64 (Al.cf x y))∧∃q os',w'=Go.Sort.grow (W.drewN q) os':=by
 have hr:cq.Rn 90 [(.pv (.agg (iD.enc x.1.1))),(.pv (.agg (iD.enc y.1.1)))] []=some (.int .i64 (cq.MS x.1.1 y.1.1),[]):=by
  have:=aI (EN cq.Q0) (cq.Rn 90 [(.pv (.agg (ak.enc (cq.tc x.1.1)))),(.pv (.agg (ak.enc (cq.tc y.1.1))))] []) _ (cq.i48 x.2.2 y.2.2);rw [OT,OT] at this;exact this
 have hs:=DA (q:=True) (B:=fun _ _=>none) ok Oz S4 90 _ [] _ _ hr W μ (fun _=>undef) [.agg x.cells.toArray, .agg y.cells.toArray] (fun _ _ _ h=>by cases h) fJ (fun id o h=>by cases h) (fun i j oi oj h=>by cases h)
  ⟨_,_,rfl,(by show rep μ (.agg (iD.enc x.1.1)) _;rw [rep];exact ⟨_,rfl,x.2.1.1,x.2.1.2⟩),_,_,rfl,(by show rep μ (.agg (iD.enc y.1.1)) _;rw [rep];exact ⟨_,rfl,y.2.1.1,y.2.1.2⟩),rfl⟩
 refine hs.2.mono ?_
 rintro e w' ⟨v,μ',loc',rfl,hP⟩
 have hv:=hP.pure rfl;rw [rep] at hv;subst hv;refine ⟨rfl,w'.drawn-W.drawn,w'.heap.extract W.heap.size w'.heap.size,?_⟩;have hd:=hP.drawn trivial;have hheap:w'.heap=W.heap++w'.heap.extract W.heap.size w'.heap.size:=by
  apply Array.ext_getElem?;intro b;by_cases hb:b<W.heap.size
  ·rw [Array.getElem?_append_left hb]
   exact hP.keep b hb (by rintro ⟨id,v,h,_⟩;simp [gP] at h)
  ·rw [Array.getElem?_append_right (by omega),Array.getElem?_extract]
   have hg:=hP.grown;by_cases SC:b<w'.heap.size
   ·rw [if_pos (by omega),show W.heap.size+(b-W.heap.size)=b by omega]
   ·rw [if_neg (by omega),Array.getElem?_eq_none (by omega)]
 have ext:∀{a b:World},a.heap=b.heap→a.tape=b.tape→a.drawn=b.drawn→a.os=b.os→a.output=b.output→a=b:=by
  intro a b h1 h2 h3 h4 h5;cases a;cases b;simp only at h1 h2 h3 h4 h5;subst h1 h2 h3 h4 h5;rfl
 exact ext hheap hP.tape (show w'.drawn=W.drawn+(w'.drawn-W.drawn) by omega) hP.os hP.output
end Go.Proofs.YtmidjldjkbljjaaGreatDoor.cl
set_option linter.unusedVariables false
set_option linter.unusedSimpArgs false
namespace Go.Proofs.YtmidjldjkbljjaaGreatDoor.cl
open Go Go.AM Go.RowKit
open Go.Sort (flatK size_flatK get_flatK ext_get!)
theorem N1 {ws:List (List AV)} {m:Nat} (h:B1 ws=some m):ws=(bif Nat.beq m 0 then [] else [[.int .u64 (m:Int)]])∧m<18446744073709551616:=by
 unfold B1 at h;split at h
 ·simp only [Option.some.injEq] at h;subst h;exact ⟨rfl,by decide⟩
 ·rename_i k
  obtain ⟨hb,hv⟩:=bG h;simp only [Bool.and_eq_true] at hb;simp only [Option.some.injEq] at hv;subst hv;have h1:0<k:=by have:=hb.1;simpa [Nat.blt_eq] using this
  have h2:k<18446744073709551616:=by have:=hb.2;simpa [Nat.blt_eq] using this
  refine ⟨?_,h2⟩;rw [cq.Xd (by omega)];rfl
 ·cases h
theorem M6:∀{xs:List (List AV)} {l:List iD},uf xs=some l→xs=l.map iD.enc∧∀p∈l,p.2<18446744073709551616:=by
 intro xs
 induction xs with
 |nil=>intro l h;simp [uf] at h;subst h;exact ⟨rfl,by simp⟩
 |cons c xs ih=>
  intro l h;unfold uf at h;split at h
  ·rename_i e;cases e
  ·rename_i s ws l' e
   injection e with e1 e2
   subst e1 e2;split at h
   ·rename_i w r hw hr
    simp only [Option.some.injEq] at h;subst h;obtain ⟨k1,k2⟩:=N1 hw;obtain ⟨k3,k4⟩:=ih hr;refine ⟨?_,?_⟩
    ·rw [k1,k3];rfl
    ·intro p hp
     rcases List.mem_cons.1 hp with rfl|hp
     ·exact k2
     ·exact k4 p hp
   ·cases h
  ·cases h
theorem UJ {μ:Mu}:∀{l:List iD} {vs:List Value},(∀p∈l,p.2<18446744073709551616)→cD μ 2 (l.map iD.enc) vs→∃jC:List (Al μ),jC.map (fun x=>x.1.1)=l∧vs=(jC.map Al.cells).flatten:=by
 intro l
 induction l with
 |nil=>intro vs _ h;exact ⟨[],rfl,h⟩
 |cons p l ih=>
  intro vs hl h;obtain ⟨us,ws,rfl,h1,h2,h3⟩:=h;obtain ⟨jC,e1,e2⟩:=ih (fun q hq=>hl q (by simp [hq])) h3;refine ⟨⟨(p,us),h1,hl p (by simp)⟩::jC,?_,?_⟩
  ·rw [List.map_cons,e1]
  ·rw [List.map_cons,List.flatten_cons,e2];rfl
theorem Wq {μ:Mu}:∀(jC:List (Al μ)),cD μ 2 (jC.map fun x=>iD.enc x.1.1) (jC.map Al.cells).flatten:=by
 intro jC
 induction jC with
 |nil=>rfl
 |cons x jC ih=>exact ⟨x.cells,(jC.map Al.cells).flatten,rfl,x.2.1,x.len,ih⟩
theorem vc {μ:Mu} (jC:List (Al μ)):(jC.map Al.cells).flatten.length=jC.length *2:=by
 induction jC with
 |nil=>rfl
 |cons x jC ih=>rw [List.map_cons,List.flatten_cons,List.length_append,ih,x.len,List.length_cons];omega
theorem O8 {μ:Mu}:∀(jC:List (Al μ)) (t:Nat),t<jC.length *2→(jC.map Al.cells).flatten[t]! =(jC[t / 2]!).cells[t % 2]! :=by
 intro jC
 induction jC with
 |nil=>intro t h;simp at h
 |cons x jC ih=>
  intro t h;have hx:=x.len;have hf:=vc jC;rw [List.length_cons] at h;rw [List.map_cons,List.flatten_cons];by_cases h2:t<2
  ·have e1:t / 2=0:=by omega
   have e2:t % 2=t:=by omega
   rw [e1,e2,List.getElem!_eq_getElem?_getD,List.getElem?_append_left (by omega)];simp [List.getElem!_eq_getElem?_getD]
  ·obtain ⟨s,rfl⟩:∃s,t=s+2:=⟨t-2,by omega⟩
   have e1:(s+2) / 2=s / 2+1:=by omega
   have e2:(s+2) % 2=s % 2:=by omega
   have:=ih s (by omega);rw [List.getElem!_eq_getElem?_getD] at this;rw [e1,e2,List.getElem!_eq_getElem?_getD,List.getElem?_append_right (by omega),hx,show s+2-2=s by omega,this];simp [List.getElem!_eq_getElem?_getD]
theorem Gz {μ:Mu} (jC:List (Al μ)):flatK Al.cells 2 jC.toArray=(jC.map Al.cells).flatten.toArray:=by
 refine ext_get! (by simp only [size_flatK,List.size_toArray];exact (vc jC).symm) fun t ht=> ?_
 have ht':t<jC.length *2:=by simpa using ht
 rw [get_flatK _ _ _ t (by simpa using ht')];have:=O8 jC t ht';simp only [List.getElem!_toArray] at this⊢;exact this.symm
theorem KU {l:List iD} (h:mP l=true):∀x∈l,∀y∈l,yP x y=false→yP y x=false→x=y:=by
 induction l with
 |nil=>intro x hx;cases hx
 |cons a l ih=>
  unfold mP at h;simp only [Bool.and_eq_true,List.all_eq_true,Bool.or_eq_true] at h;intro x hx y hy h1 h2;rcases List.mem_cons.1 hx with ex|hx'
  ·rcases List.mem_cons.1 hy with ey|hy'
   ·rw [ex,ey]
   ·subst ex
    rcases h.1 y hy' with h3|h3
    ·rw [h1] at h3;cases h3
    ·rw [h2] at h3;cases h3
  ·rcases List.mem_cons.1 hy with ey|hy'
   ·subst ey
    rcases h.1 x hx' with h3|h3
    ·rw [h2] at h3;cases h3
    ·rw [h1] at h3;cases h3
   ·exact ih h.2 x hx' y hy' h1 h2
theorem KQ {μ:Mu} {l:List iD} (hs:mP l=true) {jC:List (Al μ)} (e:jC.map (fun x=>x.1.1)=l) {d':Array (Al μ)} (hp:Go.Sort.PermIn 0 jC.toArray.size jC.toArray d') (YC:Go.Sort.SortedIn (ltOf Al.cf) 0 jC.toArray.size d'):
  d'.toList.map (fun x=>x.1.1)=ec yP l∧d'.toList.length=jC.length:=by
 obtain ⟨p1,_,p3⟩:=hp;have hsz:d'.size=jC.length:=by simpa using p1
 have e3:d'.toList.Perm jC:=by
  have h1:d'.extract 0 jC.toArray.size=d':=by
   rw [←p1];simp
  have h2:jC.toArray.extract 0 jC.toArray.size=jC.toArray:=by simp
  rw [h1,h2] at p3;simpa using p3
 refine ⟨?_,by simpa using hsz⟩;obtain ⟨s1,s2⟩:=lT yP w9 Kq l;have hp':(d'.toList.map fun x=>x.1.1).Perm l:=by rw [←e];exact e3.map _
 refine sA (lt:=yP) (hp'.trans s2.symm) ?_ s1 ?_
 ·unfold e9
  rw [List.pairwise_map,List.pairwise_iff_getElem];intro i j hi hj hij;have hi':i<d'.size:=by simpa using hi
  have hj':j<d'.size:=by simpa using hj
  have:=YC i j (Nat.zero_le _) hij (by simpa [hsz] using hj');rw [zH,getElem!_pos d' j hj',getElem!_pos d' i hi'] at this;simpa using this
 ·intro x hx y hy
  exact KU hs x (hp'.mem_iff.1 hx) y (hp'.mem_iff.1 hy)
theorem Sq (us:Array Value) (w2:World):(callFunc 90 us).run P w2= .ok (.enter 90 us) w2:=by
 have hname:¬(Tryz.f90.name= "runtime.NumGoroutine"):=by decide
 have hbody:Tryz.f90.body.isSome=true:=by rfl
 obtain ⟨c,hc⟩:=Option.isSome_iff_exists.1 hbody;simp [callFunc,Tryz.func90,hname,hc]
theorem Wy {μ:Mu} {loc:Nat→Value} {w:World} {l:List iD} (hlen:l.length≤1073741824) (hst:mP l=true) (hw:∀p∈l,p.2<18446744073709551616) (fJ:Oc μ w) (cQ:gQ w.heap.size (gP False loc [10000]) μ loc w 10000 (.row 108 2 (l.map iD.enc))):
  Calls P 89 #[loc 10000, .func (.func 90) #[] #[]] w fun e w'=>∃v μ' loc',e= .returned v∧eY False μ loc [10000] (.fk []) [(10000, .row 108 2 ((ec yP l).map iD.enc))] w v μ' loc' w':=by
 have pJ:=cQ;obtain ⟨vs,hown,hrc,sX⟩:=pJ;rcases hown.2 with ⟨e1,h0⟩|⟨g,cap,cur,e1,_,hg,hcap,JB,hsz,pL⟩
 ·have hl:l=[]:=by
   cases l with
   |nil=>rfl
   |cons a b=>simp at h0
  subst hl;have hc:Calls P 89 #[.slice none 0 0, .func (.func 90) #[] #[]] w fun e w'=>e= .returned (.tuple #[])∧w'=w:=AnyF.slices_SortFunc_none Tryz.laysF6 none 0 _ w
  rw [e1];refine hc.mono ?_
  rintro e w' ⟨rfl,rfl⟩
  exact ⟨_,μ,loc,rfl,DB fJ cQ⟩
 ·obtain ⟨jC,ha1,ha2⟩:=UJ hw hrc
  have hal:jC.length=l.length:=by rw [←ha1];simp
  have IM:(l.map iD.enc).length=jC.length:=by simp [hal]
  rw [IM] at e1 hcap pL;rw [ha2] at pL;have hfl:=vc jC;have hin:fV (loc 10000) g:=by rw [e1];exact fE.2 rfl
  obtain ⟨Pz,pH⟩:=sX g hin;have hlt:g<w.heap.size:=(Array.getElem?_eq_some_iff.1 hg).1;have hcell:∀(j:Nat),j<jC.length *2→cur[j]? =(jC.map Al.cells).flatten[j]? :=by
   intro j hj;have h1:(cur.toList.take (jC.length *2))[j]? =(jC.map Al.cells).flatten[j]? :=by rw [pL]
   rw [List.getElem?_take,if_pos hj] at h1;simpa using h1
  have hH:Go.Sort.HoldsK Al.cells 2 w g 0 jC.toArray:=by
   intro j hj;rw [Gz] at hj⊢;have hj':j<jC.length *2:=by rw [←hfl];simpa using hj
   have hcj:=hcell j hj';have WM:j<(jC.map Al.cells).flatten.length:=by omega
   rw [List.getElem?_eq_getElem WM] at hcj;rw [Nat.zero_add];refine ⟨?_,?_⟩
   ·unfold World.cell?
    simp only [hg];rw [List.getElem!_toArray,List.getElem!_eq_getElem?_getD,List.getElem?_eq_getElem WM];simp [hcj]
   ·unfold World.frozen?
    simp [hg]
  have hcmp:CmpLays P 90 #[] (Al.cells (μ:=μ)) 2 Al.cf g 0 jC.toArray.size w:=by
   intro m os dk hdk x y;refine Xr (W:=sortWorldK Al.cells 2 w g 0 m dk os) ?_ x y;obtain ⟨_,k2,_⟩:=Ap (enc:=id) (n:=m) (d:=flatK Al.cells 2 dk) (os:=os) hg;intro b j z hz;have h:=fJ b j z hz;have hne:b≠g:=fun e=>by subst e;rw [pH j] at hz;cases hz
   exact (fN (k2 b (su h) hne) j).trans h
  have hc:Calls P 89 #[.slice (some ⟨g,0,none⟩) jC.toArray.size cap, .func (.func 90) #[] #[]] w fun e w'=>e= .returned (.tuple #[])∧∃d' n os,Go.Sort.PermIn 0 jC.toArray.size jC.toArray d'∧Go.Sort.SortedIn (ltOf Al.cf) 0 jC.toArray.size d'∧w'=sortWorldK Al.cells 2 w g 0 n d' os:=
   AnyQ.slices_SortFunc Tryz.laysF6 2 Tryz.isAgg108 Tryz.sizeOf108 Al.cells Al.len Al.one Al.cf swo 90 #[] g 0 cap jC.toArray w Sq hcmp hH hlt (by simp;omega)
  have rA:Calls P 89 #[.slice (some ⟨g,0,none⟩) jC.length cap, .func (.func 90) #[] #[]] w fun e w'=>e= .returned (.tuple #[])∧∃d' n os,Go.Sort.PermIn 0 jC.toArray.size jC.toArray d'∧Go.Sort.SortedIn (ltOf Al.cf) 0 jC.toArray.size d'∧w'=sortWorldK Al.cells 2 w g 0 n d' os:=by
   simpa using hc
  rw [e1];refine rA.mono ?_
  rintro e w' ⟨rfl,d',n,os,hp,YC,rfl⟩
  obtain ⟨q1,q2⟩:=KQ hst ha1 hp YC;have Vo:=vc d'.toList;have hfa:flatK Al.cells 2 d'=(d'.toList.map Al.cells).flatten.toArray:=by
   have:=Gz d'.toList;simpa using this
  obtain ⟨k1,k2,k3⟩:=Ap (enc:=id) (n:=n) (d:=flatK Al.cells 2 d') (os:=os) hg;obtain ⟨t1,t2⟩:=Iy (enc:=id) (l:=(d'.toList.map Al.cells).flatten) (cur:=cur) (by rw [Vo,q2,hsz];omega);rw [←hfa] at t1 t2;rw [List.map_id] at t2;have hil:(ec yP l).length=jC.length:=by rw [←q1,List.length_map,q2]
  refine ⟨_,μ,loc,rfl,DC (cur:=cur) (us:=(d'.toList.map Al.cells).flatten) fJ e1 hcap JB hsz Pz pH k1 t1 (by rw [←q2,←Vo];exact t2) (by rw [Vo,q2]) k2 rfl rfl rfl k3 (by rw [List.length_map,hil]) ?_⟩;rw [←q1,List.map_map];exact Wq d'.toList
end Go.Proofs.YtmidjldjkbljjaaGreatDoor.cl
set_option linter.unusedVariables false
set_option linter.unusedSimpArgs false
namespace Go.Proofs.YtmidjldjkbljjaaGreatDoor.cl
open Go Go.AM Go.RowKit
theorem DE:∀{xs:List (List AV)} {l:List (List UInt8)},strs xs=some l→xs=l.map au:=by
 intro xs
 induction xs with
 |nil=>intro l h;simp [strs] at h;subst h;rfl
 |cons c xs ih=>
  intro l h;unfold strs at h;split at h
  ·rename_i e;cases e
  ·rename_i s l' e
   injection e with e1 e2
   subst e1 e2;simp only [Option.map_eq_some_iff] at h;obtain ⟨m,hm,rfl⟩:=h;rw [ih hm];rfl
  ·cases h
theorem G6 (sep:List UInt8):∀l:List (List UInt8),je sep l=Lib.join l sep:=by
 intro l;cases l with
 |nil=>rfl
 |cons x l=>
  rw [Lib.join_cons]
  induction l generalizing x with
  |nil=>simp [je,Lib.joinTail]
  |cons y l ih=>
   simp only [je,ih y,Lib.joinTail,List.map_cons,List.flatten_cons,List.append_assoc]
theorem zJ {μ:Mu} {loc:Nat→Value} {w w':World} {r:AV} {v:Value} (hp:Oc μ w) (hb:Below w.heap.size w w') (hr:rep μ r v):eY False μ loc [] r [] w v μ loc w' where
 ext:=⟨Mu.le.refl _,fun _ _ _ h=> .inl h⟩
 q8:=fun b j x hx=>by
  have h:=hp b j x hx;rw [fN (hb.block b (su h)) j];exact h
 res:= .inl hr
 obs:=fun id o h=>by cases h
 apart:=fun i j oi oj h=>by cases h
 keep:=fun b hlt _=>hb.block b hlt
 fix:=fun id h=>by cases h
 os:=hb.os
 tape:=hb.tape
 output:=hb.output
 grown:=hb.size
 drawn:=fun h=>h.elim
theorem Sr (us:Array Value) (w2:World):(callFunc 87 us).run P w2= .ok (.enter 87 us) w2:=by
 have hname:¬(Tryz.f87.name= "runtime.NumGoroutine"):=by decide
 have hbody:Tryz.f87.body.isSome=true:=by rfl
 obtain ⟨c,hc⟩:=Option.isSome_iff_exists.1 hbody;simp [callFunc,Tryz.func87,hname,hc]
def RN:Mu:=fun b j=>if b=0∧j<64 then some (.int .u8 (Lib.deBruijn64tab.getD j 0)) else none
theorem OX (us:Array Value) (w2:World):(callFunc 141 us).run P w2= .ok (.enter 141 us) w2:=by
 have hname:¬(Tryz.f141.name= "runtime.NumGoroutine"):=by decide
 have hbody:Tryz.f141.body.isSome=true:=by rfl
 obtain ⟨c,hc⟩:=Option.isSome_iff_exists.1 hbody;simp [callFunc,Tryz.func141,hname,hc]
theorem Mw:∀(k n:Nat),tz k n=Lib.ctzFrom k n
 |0,_=>rfl
 |k+1,n=>by
  rw [tz,Lib.ctzFrom,Mw k];by_cases h:n % 2=1
  ·simp [h]
  ·have hb:Nat.beq (n % 2) 1=false:=by
    cases hb:Nat.beq (n % 2) 1 with
    |false=>rfl
    |true=>exact absurd (Nat.eq_of_beq_eq_true hb) h
   rw [if_neg h,hb];rfl
theorem WD (n:Nat):tz 64 n=Lib.ctz 64 n:=by
 rw [Mw,Lib.ctz];split
 ·rename_i h;subst h;decide
 ·rfl
theorem iH {n0:Nat} {L:kP} {μ:Mu} {loc:Nat→Value} {w:World} {id e sz:Nat} {xs:List (List AV)} (h:gQ n0 L μ loc w id (.row e sz xs)):dL (loc id)=loc id:=by
 obtain ⟨vs,hown,_⟩:=h;rcases hown.2 with ⟨e1,_⟩|⟨g,cap,cur,e1,_⟩
 ·rw [e1];rfl
 ·rw [e1];rfl
theorem OW (us:Array Value) (w2:World):(callFunc 135 us).run P w2= .ok (.enter 135 us) w2:=by
 have hname:¬(Tryz.f135.name= "runtime.NumGoroutine"):=by decide
 have hbody:Tryz.f135.body.isSome=true:=by rfl
 obtain ⟨c,hc⟩:=Option.isSome_iff_exists.1 hbody;simp [callFunc,Tryz.func135,hname,hc]
theorem Ss (us:Array Value) (w2:World):(callFunc 89 us).run P w2= .ok (.enter 89 us) w2:=by
 have hname:¬(Tryz.f89.name= "runtime.NumGoroutine"):=by decide
 have hbody:Tryz.f89.body.isSome=true:=by rfl
 obtain ⟨c,hc⟩:=Option.isSome_iff_exists.1 hbody;simp [callFunc,Tryz.func89,hname,hc]
theorem Rz:ez False RN P Ds:=by
 intro g args bQ r dI hv w μ loc us hB fJ qp hap wW;unfold Ds at hv;split at hv
 ·rename_i xs sep
  split at hv
  ·rename_i l hl
   obtain ⟨hb,hv⟩:=bG hv;simp only [Bool.and_eq_true] at hb;have h1:=Nat.le_of_ble_eq_true hb.1;have h2:=Nat.le_of_ble_eq_true hb.2;simp only [Option.some.injEq,Prod.mk.injEq] at hv;obtain ⟨rfl,rfl⟩:=hv;have hxs:=DE hl;subst hxs;obtain ⟨u0,Y9,rfl,GR,JF⟩:=wW;obtain ⟨u1,us2,rfl,WV,VI⟩:=JF;have:us2=[]:=VI;subst this;have Ch:rep μ (.bS 1 (l.map au)) u0:=GR;have JE:rep μ (.str sep) u1:=WV;rw [rep.eq_def] at Ch;rw [rep.eq_def] at JE;dsimp only at Ch JE;subst JE;obtain ⟨A,c,rfl,hc1,vi,hA⟩:=Ch;refine ⟨fun w2=> ?_,?_⟩
   ·exact Sr _ w2
   ·rcases hA with h0|⟨b,off,rfl,hrow⟩
    ·have hl0:l=[]:=by simpa using h0
     subst hl0;refine (Tryz.strings_Join_none A c ⟨sep.toArray⟩ w).mono ?_
     rintro e w' ⟨rfl,rfl⟩
     exact ⟨_,μ,loc,rfl,zJ fJ (Below.refl _ _) (by rw [rep];rfl)⟩
    ·cases N5:l with
     |nil=>
      subst N5;refine (Tryz.strings_Join_none (some ⟨b,off,none⟩) c ⟨sep.toArray⟩ w).mono ?_
      rintro e w' ⟨rfl,rfl⟩
      exact ⟨_,μ,loc,rfl,zJ fJ (Below.refl _ _) (by rw [rep];rfl)⟩
     |cons x0 l0=>
      rw [←N5];have hcell:∀(j:Nat) s,l[j]? =some s→μ b (off+j)=some (.string ⟨s.toArray⟩):=by
       intro j s hs;obtain ⟨vs,k1,k2,k3⟩:=Bc hrow (i:=j) (x:=au s) (by simp [hs]);have k1':=k1.1;simp only [au,bB] at k1';obtain ⟨u,us,rfl,hu,rfl⟩:=k1';rw [rep] at hu;subst hu;have:=k3 0 _ rfl;simpa using this
      have hlt:b<w.heap.size:=su (fJ _ _ _ (hcell 0 x0 (by simp [N5])));have e1:(l.map fun s=>(⟨s.toArray⟩:ByteArray)).map (·.data.toList)=l:=by
       rw [List.map_map];simp [Function.comp_def]
      have:=Tryz.strings_Join b off c (l.map fun s=>⟨s.toArray⟩) ⟨sep.toArray⟩ w (fun j x hx=>by
       simp only [List.getElem?_map,Option.map_eq_some_iff] at hx;obtain ⟨s,hs,rfl⟩:=hx
       exact sr (fJ _ _ _ (hcell j s hs)) rfl) hlt (by simpa using h2) (by simpa using hc1) (by rw [e1,←G6];exact h1)
      rw [e1,←G6,List.length_map] at this;rw [List.length_map];refine this.mono ?_
      rintro e w' ⟨rfl,hbw⟩
      exact ⟨_,μ,loc,rfl,zJ fJ hbw (by rw [rep])⟩
  ·cases hv
 ·rename_i n
  split at hv
  ·rename_i m
   obtain ⟨hb,hv⟩:=bG hv;have hm:m<18446744073709551616:=by simpa [Nat.blt_eq] using hb
   simp only [Option.some.injEq,Prod.mk.injEq] at hv;obtain ⟨rfl,rfl⟩:=hv;obtain ⟨u0,Y9,rfl,GR,JF⟩:=wW;have:Y9=[]:=JF;subst this;have Ch:rep μ (.int .u64 (Int.ofNat m)) u0:=GR;rw [rep] at Ch;subst Ch;refine ⟨fun w2=>OX _ w2,?_⟩;have htab:TabAt 0 Lib.deBruijn64tab w:=by
    intro j hj;have hj64:j<64:=hj;exact sr (fJ 0 j _ (hB 0 j _ (by simp only [RN];rw [if_pos ⟨trivial,hj64⟩]))) rfl
   refine (Any7.bits_TrailingZeros64 Tryz.lays29 m hm w (fun _=>htab)).mono ?_
   rintro e w' ⟨rfl,rfl⟩
   exact ⟨_,μ,loc,rfl,zJ fJ (Below.refl _ _) (by rw [rep,WD])⟩
  ·cases hv
 ·rename_i xs
  split at hv
  ·rename_i l hl
   obtain ⟨hb,hv⟩:=bG hv;simp only [Option.some.injEq,Prod.mk.injEq] at hv;obtain ⟨rfl,rfl⟩:=hv;have hxs:=DE hl;subst hxs;obtain ⟨u0,Y9,rfl,GR,JF⟩:=wW;have:Y9=[]:=JF;subst this;have Ch:u0=loc 10000:=(show u0=dL (loc 10000) from GR).trans (iH (qp 10000 _ rfl));subst Ch;exact ⟨fun w2=>OW _ w2,Wz (Nat.le_of_ble_eq_true hb) fJ (qp 10000 _ rfl)⟩
  ·cases hv
 ·cases hv
theorem iA:ez False RN P c9:=by
 intro g args bQ r dI hv w μ loc us hB fJ qp hap wW;unfold c9 at hv;split at hv
 ·rename_i xs
  split at hv
  ·rename_i l hl
   obtain ⟨hb,hv⟩:=bG hv;simp only [Bool.and_eq_true] at hb;simp only [Option.some.injEq,Prod.mk.injEq] at hv;obtain ⟨rfl,rfl⟩:=hv;obtain ⟨hxs,hlt⟩:=M6 hl;subst hxs;obtain ⟨u0,Y9,rfl,GR,JF⟩:=wW;obtain ⟨u1,us2,rfl,WV,VI⟩:=JF;have:us2=[]:=VI;subst this;have Ch:u0=loc 10000:=(show u0=dL (loc 10000) from GR).trans (iH (qp 10000 _ rfl));subst Ch;have JE:rep μ (.fn 90 []) u1:=WV;rw [rep.eq_def] at JE;dsimp only at JE;obtain ⟨vs,rfl,hvs⟩:=JE;have:vs=[]:=hvs;subst this;exact ⟨fun w2=>Ss _ w2,Wy (Nat.le_of_ble_eq_true hb.2) hb.1 hlt fJ (qp 10000 _ rfl)⟩
  ·cases hv
 ·exact Rz g args bQ r dI hv w μ loc us hB fJ qp hap wW
end Go.Proofs.YtmidjldjkbljjaaGreatDoor.cl
