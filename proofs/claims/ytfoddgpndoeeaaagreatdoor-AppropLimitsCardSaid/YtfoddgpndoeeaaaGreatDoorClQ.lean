/- The Closure laws. -/
import Derived.Test.YtfoddgpndoeeaaaGreatDoorClQb
import Derived.Test.YtfoddgpndoeeaaaGreatDoorClCr
import Derived.Test.YtfoddgpndoeeaaaGreatDoorClT
import Derived.Test.YtfoddgpndoeeaaaGreatDoorAmR
set_option linter.unusedVariables false
set_option linter.unusedSimpArgs false
namespace Go.Proofs.YtfoddgpndoeeaaaGreatDoor.cl
open Go Go.AM Go.RowKit
theorem ok:vZ P=true:=by kernel_rfl
theorem Tb (f:Nat):(cq.Hq f).blk=[]:=by
 have key:∀(l:List (Nat×Hint)),(l.all fun p=>Nat.beq p.1 74||p.2.blk.isEmpty)=true→∀f,f≠74→((find l f).getD {}).blk=[]:=by
  intro l
  induction l with
  |nil=>intro _ f _;rfl
  |cons p l ih=>
   intro h f hf;rw [List.all_cons,Bool.and_eq_true,Bool.or_eq_true] at h;simp only [find];cases hb:Nat.beq p.1 f with
   |true=>
    rw [cond_true];rcases h.1 with h1|h1
    ·exact absurd ((Nat.eq_of_beq_eq_true hb).symm.trans (Nat.eq_of_beq_eq_true h1)) hf
    ·exact List.isEmpty_iff.1 h1
   |false=>rw [cond_false];exact ih h.2 f hf
 unfold cq.Hq;cases hb:Nat.beq f 74 with
 |true=>rfl
 |false=>
  rw [cond_false];exact key hints (by kernel_rfl) f fun e=>by rw [e] at hb;cases hb
theorem MC:∀f fn c,P.funcs[f]? =some fn→fn.body=some c→gG True (fun _ _=>none) P (cq.Hq f) fn.ntmps c:=fun f fn c _ _=>gG.none (Tb f) c
theorem Qz:dD True (fun _ _=>none) P cq.dg:=fun g args bG r de hv=>by cases hv
def Good (μ:Mu) (x:gX×List Value):Prop:=gq μ (gX.enc x.1) x.2∧x.1.2<18446744073709551616
abbrev Al (μ:Mu):Type:={ x:gX×List Value // Good μ x }
instance (μ:Mu):Inhabited (Al μ):=⟨⟨(([],0),[.string ⟨#[]⟩, .slice none 0 0]),⟨⟨⟨_,_,rfl,by rw [rep],⟨_,_,rfl,by rw [rep];exact ⟨none,0,rfl,Nat.le_refl _,Nat.zero_le _, .inl rfl⟩,rfl⟩⟩,fun u hu=>by
 simp only [List.mem_cons,List.not_mem_nil,or_false] at hu
 rcases hu with rfl|rfl<;>rfl⟩,by decide⟩⟩⟩
def Al.cells {μ:Mu} (x:Al μ):List Value:=x.1.2
theorem Al.len {μ:Mu} (x:Al μ):x.cells.length=2:=by
 obtain ⟨⟨p,vs⟩,⟨h,_⟩,_⟩:=x;obtain ⟨u,us,e,_,⟨u',us',e',_,e''⟩⟩:=h;have e0:vs=u::us:=e;have e2:us'=[]:=e'';show vs.length=2;rw [e0,e',e2];rfl
theorem Al.one {μ:Mu} (x:Al μ):∀v∈x.cells,v.oneCell'=true:=x.2.1.2
def Al.cf {μ:Mu} (x y:Al μ):Int:=cq.KR x.1.1 y.1.1
theorem yw {μ:Mu} (x y:Al μ):ltOf Al.cf x y=xB x.1.1 y.1.1:=cq.PU _ _
theorem yu {p q:gX}:xB p q=true↔dm 64 q.2<dm 64 p.2∨(dm 64 p.2=dm 64 q.2∧Op.bytesLess p.1 q.1=true):=by
 unfold xB;rw [Bool.or_eq_true,Bool.and_eq_true];constructor
 ·rintro (h|⟨h1,h2⟩)
  ·exact .inl (Nat.le_of_ble_eq_true h)
  ·exact .inr ⟨Nat.eq_of_beq_eq_true h1,h2⟩
 ·rintro (h|⟨h1,h2⟩)
  ·exact .inl (Nat.ble_eq_true_of_le h)
  ·exact .inr ⟨by rw [h1];exact Nat.beq_refl _,h2⟩
theorem vM (p q:gX) (h:xB p q=true):xB q p=false:=by
 apply Classical.byContradiction;intro hc;rw [Bool.not_eq_false,yu] at hc;rw [yu] at h;rcases h with h|⟨h1,h2⟩
 ·rcases hc with h'|⟨HV,_⟩<;>omega
 ·rcases hc with h'|⟨HV,FA⟩
  ·omega
  ·rw [iX h2] at FA;cases FA
theorem IZ (x y z:gX) (h:xB x y=true) (h':xB z y=false):xB x z=true:=by
 rw [yu] at h⊢;have hn:¬(dm 64 y.2<dm 64 z.2∨(dm 64 z.2=dm 64 y.2∧Op.bytesLess z.1 y.1=true)):=fun hc=>by
  rw [←yu,h'] at hc;cases hc
 simp only [not_or,not_and] at hn;rcases h with h|⟨h1,h2⟩
 ·left;omega
 ·by_cases e:dm 64 z.2=dm 64 y.2
  ·right
   refine ⟨by omega,?_⟩;have hz:=hn.2 e;have RE:Op.bytesLess z.1 y.1=false:=by simpa using hz
   exact vB _ _ _ h2 RE
  ·left;omega
theorem IY (p:gX):xB p p=false:=by
 cases h:xB p p with
 |false=>rfl
 |true=>rw [vM p p h] at h;cases h
theorem swo {μ:Mu}:Go.Sort.SWO (ltOf (Al.cf (μ:=μ))) where
 irrefl x:=by rw [yw,IY]
 trans x y z h1 h2:=by
  rw [yw] at *;exact IZ _ _ _ h1 (vM _ _ h2)
 ntrans x y z h1 h2:=by
  rw [yw] at *;cases hc:xB x.1.1 z.1.1 with
  |false=>rfl
  |true=>
   have:=IZ _ _ _ hc h2;rw [h1] at this;cases this
theorem MY (p:gX):aB.enc (cq.tc p)=gX.enc p:=by
 show [AV.str p.1,AV.cE 1 ((cq.wl p.2).map (aJ .u64))]=[AV.str p.1,AV.cE 1 (bif Nat.beq p.2 0 then [] else [[.int .u64 (p.2:Int)]])]
 unfold cq.wl;cases Nat.beq p.2 0<;>rfl
theorem UB {μ:Mu} {W:World} (fm:Mk μ W) (x y:Al μ):Calls P 22 #[.agg x.cells.toArray, .agg y.cells.toArray] W fun e w'=>e= .returned (.int .i64 (Al.cf x y))∧∃q os',w'=Go.Sort.grow (W.drewN q) os':=by
 have hr:cq.Rn 22 [(.pv (.agg (gX.enc x.1.1))),(.pv (.agg (gX.enc y.1.1)))] []=some (.int .i64 (cq.KR x.1.1 y.1.1),[]):=by
  have:=aP (EN cq.Q0) (cq.Rn 22 [(.pv (.agg (aB.enc (cq.tc x.1.1)))),(.pv (.agg (aB.enc (cq.tc y.1.1))))] []) _ (cq.i48 x.2.2 y.2.2);rw [MY,MY] at this;exact this
 have hs:=Cc (q:=True) (B:=fun _ _=>none) ok MC Qz 22 _ [] _ _ hr W μ (fun _=>undef) [.agg x.cells.toArray, .agg y.cells.toArray] (fun _ _ _ h=>by cases h) fm (fun id o h=>by cases h) (fun i j oi oj h=>by cases h)
  ⟨_,_,rfl,(by show rep μ (.agg (gX.enc x.1.1)) _;rw [rep];exact ⟨_,rfl,x.2.1.1,x.2.1.2⟩),_,_,rfl,(by show rep μ (.agg (gX.enc y.1.1)) _;rw [rep];exact ⟨_,rfl,y.2.1.1,y.2.1.2⟩),rfl⟩
 refine hs.2.mono ?_
 rintro e w' ⟨v,μ',loc',rfl,hP⟩
 have hv:=hP.pure rfl;rw [rep] at hv;subst hv;refine ⟨rfl,w'.drawn-W.drawn,w'.heap.extract W.heap.size w'.heap.size,?_⟩;have hd:=hP.drawn trivial;have hheap:w'.heap=W.heap++w'.heap.extract W.heap.size w'.heap.size:=by
  apply Array.ext_getElem?;intro b;by_cases hb:b<W.heap.size
  ·rw [Array.getElem?_append_left hb]
   exact hP.keep b hb (by rintro ⟨id,v,h,_⟩;simp [gi] at h)
  ·rw [Array.getElem?_append_right (by omega),Array.getElem?_extract]
   have hg:=hP.grown;by_cases Qg:b<w'.heap.size
   ·rw [if_pos (by omega),show W.heap.size+(b-W.heap.size)=b by omega]
   ·rw [if_neg (by omega),Array.getElem?_eq_none (by omega)]
 have ext:∀{a b:World},a.heap=b.heap→a.tape=b.tape→a.drawn=b.drawn→a.os=b.os→a.output=b.output→a=b:=by
  intro a b h1 h2 h3 h4 h5;cases a;cases b;simp only at h1 h2 h3 h4 h5;subst h1 h2 h3 h4 h5;rfl
 exact ext hheap hP.tape (show w'.drawn=W.drawn+(w'.drawn-W.drawn) by omega) hP.os hP.output
end Go.Proofs.YtfoddgpndoeeaaaGreatDoor.cl
set_option linter.unusedVariables false
set_option linter.unusedSimpArgs false
namespace Go.Proofs.YtfoddgpndoeeaaaGreatDoor.cl
open Go Go.AM Go.RowKit
open Go.Sort (flatK size_flatK get_flatK ext_get!)
theorem L7 {ws:List (List AV)} {m:Nat} (h:AG ws=some m):ws=(bif Nat.beq m 0 then [] else [[.int .u64 (m:Int)]])∧m<18446744073709551616:=by
 unfold AG at h;split at h
 ·simp only [Option.some.injEq] at h;subst h;exact ⟨rfl,by decide⟩
 ·rename_i k
  obtain ⟨hb,hv⟩:=bu h;simp only [Bool.and_eq_true] at hb;simp only [Option.some.injEq] at hv;subst hv;have h1:0<k:=by have:=hb.1;simpa [Nat.blt_eq] using this
  have h2:k<18446744073709551616:=by have:=hb.2;simpa [Nat.blt_eq] using this
  refine ⟨?_,h2⟩;rw [cq.Uy (by omega)];rfl
 ·cases h
theorem K3:∀{xs:List (List AV)} {l:List gX},td xs=some l→xs=l.map gX.enc∧∀p∈l,p.2<18446744073709551616:=by
 intro xs
 induction xs with
 |nil=>intro l h;simp [td] at h;subst h;exact ⟨rfl,by simp⟩
 |cons c xs ih=>
  intro l h;unfold td at h;split at h
  ·rename_i e;cases e
  ·rename_i s ws l' e
   injection e with e1 e2
   subst e1 e2;split at h
   ·rename_i w r hw hr
    simp only [Option.some.injEq] at h;subst h;obtain ⟨k1,k2⟩:=L7 hw;obtain ⟨k3,k4⟩:=ih hr;refine ⟨?_,?_⟩
    ·rw [k1,k3];rfl
    ·intro p hp
     rcases List.mem_cons.1 hp with rfl|hp
     ·exact k2
     ·exact k4 p hp
   ·cases h
  ·cases h
theorem Sg {μ:Mu}:∀{l:List gX} {vs:List Value},(∀p∈l,p.2<18446744073709551616)→bV μ 2 (l.map gX.enc) vs→∃jh:List (Al μ),jh.map (fun x=>x.1.1)=l∧vs=(jh.map Al.cells).flatten:=by
 intro l
 induction l with
 |nil=>intro vs _ h;exact ⟨[],rfl,h⟩
 |cons p l ih=>
  intro vs hl h;obtain ⟨us,ws,rfl,h1,h2,h3⟩:=h;obtain ⟨jh,e1,e2⟩:=ih (fun q hq=>hl q (by simp [hq])) h3;refine ⟨⟨(p,us),h1,hl p (by simp)⟩::jh,?_,?_⟩
  ·rw [List.map_cons,e1]
  ·rw [List.map_cons,List.flatten_cons,e2];rfl
theorem TH {μ:Mu}:∀(jh:List (Al μ)),bV μ 2 (jh.map fun x=>gX.enc x.1.1) (jh.map Al.cells).flatten:=by
 intro jh
 induction jh with
 |nil=>rfl
 |cons x jh ih=>exact ⟨x.cells,(jh.map Al.cells).flatten,rfl,x.2.1,x.len,ih⟩
theorem uw {μ:Mu} (jh:List (Al μ)):(jh.map Al.cells).flatten.length=jh.length *2:=by
 induction jh with
 |nil=>rfl
 |cons x jh ih=>rw [List.map_cons,List.flatten_cons,List.length_append,ih,x.len,List.length_cons];omega
theorem Nh {μ:Mu}:∀(jh:List (Al μ)) (t:Nat),t<jh.length *2→(jh.map Al.cells).flatten[t]! =(jh[t / 2]!).cells[t % 2]! :=by
 intro jh
 induction jh with
 |nil=>intro t h;simp at h
 |cons x jh ih=>
  intro t h;have hx:=x.len;have hf:=uw jh;rw [List.length_cons] at h;rw [List.map_cons,List.flatten_cons];by_cases h2:t<2
  ·have e1:t / 2=0:=by omega
   have e2:t % 2=t:=by omega
   rw [e1,e2,List.getElem!_eq_getElem?_getD,List.getElem?_append_left (by omega)];simp [List.getElem!_eq_getElem?_getD]
  ·obtain ⟨s,rfl⟩:∃s,t=s+2:=⟨t-2,by omega⟩
   have e1:(s+2) / 2=s / 2+1:=by omega
   have e2:(s+2) % 2=s % 2:=by omega
   have:=ih s (by omega);rw [List.getElem!_eq_getElem?_getD] at this;rw [e1,e2,List.getElem!_eq_getElem?_getD,List.getElem?_append_right (by omega),hx,show s+2-2=s by omega,this];simp [List.getElem!_eq_getElem?_getD]
theorem Fl {μ:Mu} (jh:List (Al μ)):flatK Al.cells 2 jh.toArray=(jh.map Al.cells).flatten.toArray:=by
 refine ext_get! (by simp only [size_flatK,List.size_toArray];exact (uw jh).symm) fun t ht=> ?_
 have ht':t<jh.length *2:=by simpa using ht
 rw [get_flatK _ _ _ t (by simpa using ht')];have:=Nh jh t ht';simp only [List.getElem!_toArray] at this⊢;exact this.symm
theorem Jy {l:List gX} (h:lU l=true):∀x∈l,∀y∈l,xB x y=false→xB y x=false→x=y:=by
 induction l with
 |nil=>intro x hx;cases hx
 |cons a l ih=>
  unfold lU at h;simp only [Bool.and_eq_true,List.all_eq_true,Bool.or_eq_true] at h;intro x hx y hy h1 h2;rcases List.mem_cons.1 hx with ex|hx'
  ·rcases List.mem_cons.1 hy with ey|hy'
   ·rw [ex,ey]
   ·subst ex
    rcases h.1 y hy' with h3|h3
    ·rw [h1] at h3;cases h3
    ·rw [h2] at h3;cases h3
  ·rcases List.mem_cons.1 hy with ey|hy'
   ·subst ey
    rcases h.1 x hx' with h3|h3
    ·rw [h2] at h3;cases h3
    ·rw [h1] at h3;cases h3
   ·exact ih h.2 x hx' y hy' h1 h2
theorem Jt {μ:Mu} {l:List gX} (hs:lU l=true) {jh:List (Al μ)} (e:jh.map (fun x=>x.1.1)=l) {d':Array (Al μ)} (hp:Go.Sort.PermIn 0 jh.toArray.size jh.toArray d') (VD:Go.Sort.SortedIn (ltOf Al.cf) 0 jh.toArray.size d'):
  d'.toList.map (fun x=>x.1.1)=dP xB l∧d'.toList.length=jh.length:=by
 obtain ⟨p1,_,p3⟩:=hp;have hsz:d'.size=jh.length:=by simpa using p1
 have e3:d'.toList.Perm jh:=by
  have h1:d'.extract 0 jh.toArray.size=d':=by
   rw [←p1];simp
  have h2:jh.toArray.extract 0 jh.toArray.size=jh.toArray:=by simp
  rw [h1,h2] at p3;simpa using p3
 refine ⟨?_,by simpa using hsz⟩;obtain ⟨s1,s2⟩:=k9 xB vM IZ l;have hp':(d'.toList.map fun x=>x.1.1).Perm l:=by rw [←e];exact e3.map _
 refine rF (lt:=xB) (hp'.trans s2.symm) ?_ s1 ?_
 ·unfold fI
  rw [List.pairwise_map,List.pairwise_iff_getElem];intro i j hi hj hij;have hi':i<d'.size:=by simpa using hi
  have hj':j<d'.size:=by simpa using hj
  have:=VD i j (Nat.zero_le _) hij (by simpa [hsz] using hj');rw [yw,getElem!_pos d' j hj',getElem!_pos d' i hi'] at this;simpa using this
 ·intro x hx y hy
  exact Jy hs x (hp'.mem_iff.1 hx) y (hp'.mem_iff.1 hy)
theorem P6 (us:Array Value) (w2:World):(callFunc 22 us).run P w2= .ok (.enter 22 us) w2:=by
 have hname:¬(Tryz.f22.name= "runtime.NumGoroutine"):=by decide
 have hbody:Tryz.f22.body.isSome=true:=by rfl
 obtain ⟨c,hc⟩:=Option.isSome_iff_exists.1 hbody;simp [callFunc,Tryz.func22,hname,hc]
theorem TT {μ:Mu} {loc:Nat→Value} {w:World} {l:List gX} (hlen:l.length≤1073741824) (hst:lU l=true) (hw:∀p∈l,p.2<18446744073709551616) (fm:Mk μ w) (cz:gB w.heap.size (gi False loc [10000]) μ loc w 10000 (.row 51 2 (l.map gX.enc))):
  Calls P 21 #[loc 10000, .func (.func 22) #[] #[]] w fun e w'=>∃v μ' loc',e= .returned v∧eD False μ loc [10000] (.e9 []) [(10000, .row 51 2 ((dP xB l).map gX.enc))] w v μ' loc' w':=by
 have nS:=cz;obtain ⟨vs,hown,hrc,rX⟩:=nS;rcases hown.2 with ⟨e1,h0⟩|⟨g,cap,cur,e1,_,hg,hcap,HW,hsz,nT⟩
 ·have hl:l=[]:=by
   cases l with
   |nil=>rfl
   |cons a b=>simp at h0
  subst hl;have hc:Calls P 21 #[.slice none 0 0, .func (.func 22) #[] #[]] w fun e w'=>e= .returned (.tuple #[])∧w'=w:=AnyF.slices_SortFunc_none Tryz.laysF6 none 0 _ w
  rw [e1];refine hc.mono ?_
  rintro e w' ⟨rfl,rfl⟩
  exact ⟨_,μ,loc,rfl,Ce fm cz⟩
 ·obtain ⟨jh,ha1,ha2⟩:=Sg hw hrc
  have hal:jh.length=l.length:=by rw [←ha1];simp
  have Md:(l.map gX.enc).length=jh.length:=by simp [hal]
  rw [Md] at e1 hcap nT;rw [ha2] at nT;have hfl:=uw jh;have hin:ff (loc 10000) g:=by rw [e1];exact eT.2 rfl
  obtain ⟨NB,nR⟩:=rX g hin;have hlt:g<w.heap.size:=(Array.getElem?_eq_some_iff.1 hg).1;have hcell:∀(j:Nat),j<jh.length *2→cur[j]? =(jh.map Al.cells).flatten[j]? :=by
   intro j hj;have h1:(cur.toList.take (jh.length *2))[j]? =(jh.map Al.cells).flatten[j]? :=by rw [nT]
   rw [List.getElem?_take,if_pos hj] at h1;simpa using h1
  have hH:Go.Sort.HoldsK Al.cells 2 w g 0 jh.toArray:=by
   intro j hj;rw [Fl] at hj⊢;have hj':j<jh.length *2:=by rw [←hfl];simpa using hj
   have hcj:=hcell j hj';have hjf:j<(jh.map Al.cells).flatten.length:=by omega
   rw [List.getElem?_eq_getElem hjf] at hcj;rw [Nat.zero_add];refine ⟨?_,?_⟩
   ·unfold World.cell?
    simp only [hg];rw [List.getElem!_toArray,List.getElem!_eq_getElem?_getD,List.getElem?_eq_getElem hjf];simp [hcj]
   ·unfold World.frozen?
    simp [hg]
  have hcmp:CmpLays P 22 #[] (Al.cells (μ:=μ)) 2 Al.cf g 0 jh.toArray.size w:=by
   intro m os dk hdk x y;refine UB (W:=sortWorldK Al.cells 2 w g 0 m dk os) ?_ x y;obtain ⟨_,k2,_⟩:=ze (enc:=id) (n:=m) (d:=flatK Al.cells 2 dk) (os:=os) hg;intro b j z hz;have h:=fm b j z hz;have hne:b≠g:=fun e=>by subst e;rw [nR j] at hz;cases hz
   exact (fG (k2 b (rD h) hne) j).trans h
  have hc:Calls P 21 #[.slice (some ⟨g,0,none⟩) jh.toArray.size cap, .func (.func 22) #[] #[]] w fun e w'=>e= .returned (.tuple #[])∧∃d' n os,Go.Sort.PermIn 0 jh.toArray.size jh.toArray d'∧Go.Sort.SortedIn (ltOf Al.cf) 0 jh.toArray.size d'∧w'=sortWorldK Al.cells 2 w g 0 n d' os:=
   AnyQ.slices_SortFunc Tryz.laysF6 2 Tryz.isAgg51 Tryz.sizeOf51 Al.cells Al.len Al.one Al.cf swo 22 #[] g 0 cap jh.toArray w P6 hcmp hH hlt (by simp;omega)
  have sJ:Calls P 21 #[.slice (some ⟨g,0,none⟩) jh.length cap, .func (.func 22) #[] #[]] w fun e w'=>e= .returned (.tuple #[])∧∃d' n os,Go.Sort.PermIn 0 jh.toArray.size jh.toArray d'∧Go.Sort.SortedIn (ltOf Al.cf) 0 jh.toArray.size d'∧w'=sortWorldK Al.cells 2 w g 0 n d' os:=by
   simpa using hc
  rw [e1];refine sJ.mono ?_
  rintro e w' ⟨rfl,d',n,os,hp,VD,rfl⟩
  obtain ⟨q1,q2⟩:=Jt hst ha1 hp VD;have SU:=uw d'.toList;have hfa:flatK Al.cells 2 d'=(d'.toList.map Al.cells).flatten.toArray:=by
   have:=Fl d'.toList;simpa using this
  obtain ⟨k1,k2,k3⟩:=ze (enc:=id) (n:=n) (d:=flatK Al.cells 2 d') (os:=os) hg;obtain ⟨t1,t2⟩:=GQ (enc:=id) (l:=(d'.toList.map Al.cells).flatten) (cur:=cur) (by rw [SU,q2,hsz];omega);rw [←hfa] at t1 t2;rw [List.map_id] at t2;have hil:(dP xB l).length=jh.length:=by rw [←q1,List.length_map,q2]
  refine ⟨_,μ,loc,rfl,Cg (cur:=cur) (us:=(d'.toList.map Al.cells).flatten) fm e1 hcap HW hsz NB nR k1 t1 (by rw [←q2,←SU];exact t2) (by rw [SU,q2]) k2 rfl rfl rfl k3 (by rw [List.length_map,hil]) ?_⟩;rw [←q1,List.map_map];exact TH d'.toList
end Go.Proofs.YtfoddgpndoeeaaaGreatDoor.cl
set_option linter.unusedVariables false
set_option linter.unusedSimpArgs false
namespace Go.Proofs.YtfoddgpndoeeaaaGreatDoor.cl
open Go Go.AM Go.RowKit
theorem Ch:∀{xs:List (List AV)} {l:List (List UInt8)},strs xs=some l→xs=l.map aI:=by
 intro xs
 induction xs with
 |nil=>intro l h;simp [strs] at h;subst h;rfl
 |cons c xs ih=>
  intro l h;unfold strs at h;split at h
  ·rename_i e;cases e
  ·rename_i s l' e
   injection e with e1 e2
   subst e1 e2;simp only [Option.map_eq_some_iff] at h;obtain ⟨m,hm,rfl⟩:=h;rw [ih hm];rfl
  ·cases h
theorem FM (sep:List UInt8):∀l:List (List UInt8),ja sep l=Lib.join l sep:=by
 intro l;cases l with
 |nil=>rfl
 |cons x l=>
  rw [Lib.join_cons]
  induction l generalizing x with
  |nil=>simp [ja,Lib.joinTail]
  |cons y l ih=>
   simp only [ja,ih y,Lib.joinTail,List.map_cons,List.flatten_cons,List.append_assoc]
theorem yz {μ:Mu} {loc:Nat→Value} {w w':World} {r:AV} {v:Value} (hp:Mk μ w) (hb:Below w.heap.size w w') (hr:rep μ r v):eD False μ loc [] r [] w v μ loc w' where
 ext:=⟨Mu.le.refl _,fun _ _ _ h=> .inl h⟩
 ou:=fun b j x hx=>by
  have h:=hp b j x hx;rw [fG (hb.block b (rD h)) j];exact h
 res:= .inl hr
 obs:=fun id o h=>by cases h
 apart:=fun i j oi oj h=>by cases h
 keep:=fun b hlt _=>hb.block b hlt
 fix:=fun id h=>by cases h
 os:=hb.os
 tape:=hb.tape
 output:=hb.output
 grown:=hb.size
 drawn:=fun h=>h.elim
theorem P3 (us:Array Value) (w2:World):(callFunc 19 us).run P w2= .ok (.enter 19 us) w2:=by
 have hname:¬(Tryz.f19.name= "runtime.NumGoroutine"):=by decide
 have hbody:Tryz.f19.body.isSome=true:=by rfl
 obtain ⟨c,hc⟩:=Option.isSome_iff_exists.1 hbody;simp [callFunc,Tryz.func19,hname,hc]
def JA:Mu:=fun b j=>if b=0∧j<64 then some (.int .u8 (Lib.deBruijn64tab.getD j 0)) else none
theorem P7 (us:Array Value) (w2:World):(callFunc 51 us).run P w2= .ok (.enter 51 us) w2:=by
 have hname:¬(Tryz.f51.name= "runtime.NumGoroutine"):=by decide
 have hbody:Tryz.f51.body.isSome=true:=by rfl
 obtain ⟨c,hc⟩:=Option.isSome_iff_exists.1 hbody;simp [callFunc,Tryz.func51,hname,hc]
theorem KC:∀(k n:Nat),tz k n=Lib.ctzFrom k n
 |0,_=>rfl
 |k+1,n=>by
  rw [tz,Lib.ctzFrom,KC k];by_cases h:n % 2=1
  ·simp [h]
  ·have hb:Nat.beq (n % 2) 1=false:=by
    cases hb:Nat.beq (n % 2) 1 with
    |false=>rfl
    |true=>exact absurd (Nat.eq_of_beq_eq_true hb) h
   rw [if_neg h,hb];rfl
theorem T3 (n:Nat):tz 64 n=Lib.ctz 64 n:=by
 rw [KC,Lib.ctz];split
 ·rename_i h;subst h;decide
 ·rfl
theorem eY {n0:Nat} {L:ku} {μ:Mu} {loc:Nat→Value} {w:World} {id e sz:Nat} {xs:List (List AV)} (h:gB n0 L μ loc w id (.row e sz xs)):c7 (loc id)=loc id:=by
 obtain ⟨vs,hown,_⟩:=h;rcases hown.2 with ⟨e1,_⟩|⟨g,cap,cur,e1,_⟩
 ·rw [e1];rfl
 ·rw [e1];rfl
theorem P5 (us:Array Value) (w2:World):(callFunc 43 us).run P w2= .ok (.enter 43 us) w2:=by
 have hname:¬(Tryz.f43.name= "runtime.NumGoroutine"):=by decide
 have hbody:Tryz.f43.body.isSome=true:=by rfl
 obtain ⟨c,hc⟩:=Option.isSome_iff_exists.1 hbody;simp [callFunc,Tryz.func43,hname,hc]
theorem P4 (us:Array Value) (w2:World):(callFunc 21 us).run P w2= .ok (.enter 21 us) w2:=by
 have hname:¬(Tryz.f21.name= "runtime.NumGoroutine"):=by decide
 have hbody:Tryz.f21.body.isSome=true:=by rfl
 obtain ⟨c,hc⟩:=Option.isSome_iff_exists.1 hbody;simp [callFunc,Tryz.func21,hname,hc]
theorem OX:dD False JA P B6:=by
 intro g args bG r de hv w μ loc us hB fm qP hap ua;unfold B6 at hv;split at hv
 ·rename_i xs sep
  split at hv
  ·rename_i l hl
   obtain ⟨hb,hv⟩:=bu hv;simp only [Bool.and_eq_true] at hb;have h1:=Nat.le_of_ble_eq_true hb.1;have h2:=Nat.le_of_ble_eq_true hb.2;simp only [Option.some.injEq,Prod.mk.injEq] at hv;obtain ⟨rfl,rfl⟩:=hv;have hxs:=Ch hl;subst hxs;obtain ⟨u0,Wh,rfl,FE,H6⟩:=ua;obtain ⟨u1,us2,rfl,Uf,Tg⟩:=H6;have:us2=[]:=Tg;subst this;have AY:rep μ (.cE 1 (l.map aI)) u0:=FE;have HZ:rep μ (.str sep) u1:=Uf;rw [rep.eq_def] at AY;rw [rep.eq_def] at HZ;dsimp only at AY HZ;subst HZ;obtain ⟨A,c,rfl,hc1,AJ,hA⟩:=AY;refine ⟨fun w2=> ?_,?_⟩
   ·exact P3 _ w2
   ·rcases hA with h0|⟨b,off,rfl,hrow⟩
    ·have hl0:l=[]:=by simpa using h0
     subst hl0;refine (Tryz.strings_Join_none A c ⟨sep.toArray⟩ w).mono ?_
     rintro e w' ⟨rfl,rfl⟩
     exact ⟨_,μ,loc,rfl,yz fm (Below.refl _ _) (by rw [rep];rfl)⟩
    ·cases Mc:l with
     |nil=>
      subst Mc;refine (Tryz.strings_Join_none (some ⟨b,off,none⟩) c ⟨sep.toArray⟩ w).mono ?_
      rintro e w' ⟨rfl,rfl⟩
      exact ⟨_,μ,loc,rfl,yz fm (Below.refl _ _) (by rw [rep];rfl)⟩
     |cons x0 l0=>
      rw [←Mc];have hcell:∀(j:Nat) s,l[j]? =some s→μ b (off+j)=some (.string ⟨s.toArray⟩):=by
       intro j s hs;obtain ⟨vs,k1,k2,k3⟩:=zZ hrow (i:=j) (x:=aI s) (by simp [hs]);have k1':=k1.1;simp only [aI,aU] at k1';obtain ⟨u,us,rfl,hu,rfl⟩:=k1';rw [rep] at hu;subst hu;have:=k3 0 _ rfl;simpa using this
      have hlt:b<w.heap.size:=rD (fm _ _ _ (hcell 0 x0 (by simp [Mc])));have e1:(l.map fun s=>(⟨s.toArray⟩:ByteArray)).map (·.data.toList)=l:=by
       rw [List.map_map];simp [Function.comp_def]
      have:=Tryz.strings_Join b off c (l.map fun s=>⟨s.toArray⟩) ⟨sep.toArray⟩ w (fun j x hx=>by
       simp only [List.getElem?_map,Option.map_eq_some_iff] at hx;obtain ⟨s,hs,rfl⟩:=hx
       exact rC (fm _ _ _ (hcell j s hs)) rfl) hlt (by simpa using h2) (by simpa using hc1) (by rw [e1,←FM];exact h1)
      rw [e1,←FM,List.length_map] at this;rw [List.length_map];refine this.mono ?_
      rintro e w' ⟨rfl,hbw⟩
      exact ⟨_,μ,loc,rfl,yz fm hbw (by rw [rep])⟩
  ·cases hv
 ·rename_i n
  split at hv
  ·rename_i m
   obtain ⟨hb,hv⟩:=bu hv;have hm:m<18446744073709551616:=by simpa [Nat.blt_eq] using hb
   simp only [Option.some.injEq,Prod.mk.injEq] at hv;obtain ⟨rfl,rfl⟩:=hv;obtain ⟨u0,Wh,rfl,FE,H6⟩:=ua;have:Wh=[]:=H6;subst this;have AY:rep μ (.int .u64 (Int.ofNat m)) u0:=FE;rw [rep] at AY;subst AY;refine ⟨fun w2=>P7 _ w2,?_⟩;have htab:TabAt 0 Lib.deBruijn64tab w:=by
    intro j hj;have hj64:j<64:=hj;exact rC (fm 0 j _ (hB 0 j _ (by simp only [JA];rw [if_pos ⟨trivial,hj64⟩]))) rfl
   refine (Any7.bits_TrailingZeros64 Tryz.lays29 m hm w (fun _=>htab)).mono ?_
   rintro e w' ⟨rfl,rfl⟩
   exact ⟨_,μ,loc,rfl,yz fm (Below.refl _ _) (by rw [rep,T3])⟩
  ·cases hv
 ·rename_i xs
  split at hv
  ·rename_i l hl
   obtain ⟨hb,hv⟩:=bu hv;simp only [Option.some.injEq,Prod.mk.injEq] at hv;obtain ⟨rfl,rfl⟩:=hv;have hxs:=Ch hl;subst hxs;obtain ⟨u0,Wh,rfl,FE,H6⟩:=ua;have:Wh=[]:=H6;subst this;have AY:u0=loc 10000:=(show u0=c7 (loc 10000) from FE).trans (eY (qP 10000 _ rfl));subst AY;exact ⟨fun w2=>P5 _ w2,TU (Nat.le_of_ble_eq_true hb) fm (qP 10000 _ rfl)⟩
  ·cases hv
 ·cases hv
def Hn (f:Nat):Hint:=bif Nat.beq f 8 then { TE:=[(12,[2])] } else {}
theorem MQ (n s:List UInt8):jE P Hn (fun _ _ _=>none) 3 8 [.pv (.str n), .pv (.str s), .pv .jL] []=some (.agg [.str n, .cE 1 [[.str s]], .jL],[]):=by kernel_rfl
theorem LB:dD False JA P (fun _ _ _=>none):=by
 intro g args bG r de hv;cases hv
theorem PX:dD False JA P (jE P Hn (fun _ _ _=>none) 3):=
 wW ok (fun f fn c _ _=>gG.none (by unfold Hn;cases Nat.beq f 8<;>rfl) c) LB 3
theorem Kx:dD False JA P dg:=by
 intro g args bG r de hv w μ loc us hB fm qP hap ua;unfold dg at hv;split at hv
 ·rename_i xs
  split at hv
  ·rename_i l hl
   obtain ⟨hb,hv⟩:=bu hv;simp only [Bool.and_eq_true] at hb;simp only [Option.some.injEq,Prod.mk.injEq] at hv;obtain ⟨rfl,rfl⟩:=hv;obtain ⟨hxs,hlt⟩:=K3 hl;subst hxs;obtain ⟨u0,Wh,rfl,FE,H6⟩:=ua;obtain ⟨u1,us2,rfl,Uf,Tg⟩:=H6;have:us2=[]:=Tg;subst this;have AY:u0=loc 10000:=(show u0=c7 (loc 10000) from FE).trans (eY (qP 10000 _ rfl));subst AY;have HZ:rep μ (.fn 22 []) u1:=Uf;rw [rep.eq_def] at HZ;dsimp only at HZ;obtain ⟨vs,rfl,hvs⟩:=HZ;have:vs=[]:=hvs;subst this;exact ⟨fun w2=>P4 _ w2,TT (Nat.le_of_ble_eq_true hb.2) hb.1 hlt fm (qP 10000 _ rfl)⟩
  ·cases hv
 ·rename_i n s
  simp only [Option.some.injEq,Prod.mk.injEq] at hv;obtain ⟨rfl,rfl⟩:=hv;exact PX 8 _ [] _ [] (MQ n s) w μ loc us hB fm qP hap ua
 ·exact OX g args bG r de hv w μ loc us hB fm qP hap ua
end Go.Proofs.YtfoddgpndoeeaaaGreatDoor.cl
