/- The Closure laws. -/
import Derived.Test.YtmidjldjkbljjaaGreatDoorClQb
import Derived.Test.YtmidjldjkbljjaaGreatDoorClCr
import Derived.Test.YtmidjldjkbljjaaGreatDoorClT
import Derived.Test.YtmidjldjkbljjaaGreatDoorAmR
set_option linter.unusedVariables false
set_option linter.unusedSimpArgs false
namespace Go.Proofs.YtmidjldjkbljjaaGreatDoor.cl
open Go Go.AM Go.RowKit
theorem ok:yE P=true:=by kernel_rfl
theorem Xw (f:Nat):(cq.Hq f).blk=[]:=by
 have key:∀(l:List (Nat×Hint)),(l.all fun p=>Nat.beq p.1 119||p.2.blk.isEmpty)=true→∀f,f≠119→((find l f).getD {}).blk=[]:=by
  intro l
  induction l with
  |nil=>intro _ f _;rfl
  |cons p l ih=>
   intro h f hf;rw [List.all_cons,Bool.and_eq_true,Bool.or_eq_true] at h;simp only [find];cases hb:Nat.beq p.1 f with
   |true=>
    rw [cond_true];rcases h.1 with h1|h1
    ·exact absurd ((Nat.eq_of_beq_eq_true hb).symm.trans (Nat.eq_of_beq_eq_true h1)) hf
    ·exact List.isEmpty_iff.1 h1
   |false=>rw [cond_false];exact ih h.2 f hf
 unfold cq.Hq;cases hb:Nat.beq f 119 with
 |true=>rfl
 |false=>
  rw [cond_false];exact key hints (by kernel_rfl) f fun e=>by rw [e] at hb;cases hb
theorem Qd:∀f fn c,P.funcs[f]? =some fn→fn.body=some c→iq True (fun _ _=>none) P (cq.Hq f) fn.ntmps c:=fun f fn c _ _=>iq.none (Xw f) c
theorem UH:eF True (fun _ _=>none) P cq.dg:=fun g args bU r dP hv=>by cases hv
def Good (μ:Mu) (x:iC×List Value):Prop:=gB μ (iC.enc x.1) x.2∧x.1.2<18446744073709551616
abbrev Al (μ:Mu):Type:={ x:iC×List Value // Good μ x }
instance (μ:Mu):Inhabited (Al μ):=⟨⟨(([],0),[.string ⟨#[]⟩, .slice none 0 0]),⟨⟨⟨_,_,rfl,by rw [rep],⟨_,_,rfl,by rw [rep];exact ⟨none,0,rfl,Nat.le_refl _,Nat.zero_le _, .inl rfl⟩,rfl⟩⟩,fun u hu=>by
 simp only [List.mem_cons,List.not_mem_nil,or_false] at hu
 rcases hu with rfl|rfl<;>rfl⟩,by decide⟩⟩⟩
def Al.cells {μ:Mu} (x:Al μ):List Value:=x.1.2
theorem Al.len {μ:Mu} (x:Al μ):x.cells.length=2:=by
 obtain ⟨⟨p,vs⟩,⟨h,_⟩,_⟩:=x;obtain ⟨u,us,e,_,⟨u',us',e',_,e''⟩⟩:=h;have e0:vs=u::us:=e;have e2:us'=[]:=e'';show vs.length=2;rw [e0,e',e2];rfl
theorem Al.one {μ:Mu} (x:Al μ):∀v∈x.cells,v.oneCell'=true:=x.2.1.2
def Al.cf {μ:Mu} (x y:Al μ):Int:=cq.Oh x.1.1 y.1.1
theorem AF {μ:Mu} (x y:Al μ):ltOf Al.cf x y=zK x.1.1 y.1.1:=cq.Uf _ _
theorem AE {p q:iC}:zK p q=true↔c4 64 q.2<c4 64 p.2∨(c4 64 p.2=c4 64 q.2∧Op.bytesLess p.1 q.1=true):=by
 unfold zK;rw [Bool.or_eq_true,Bool.and_eq_true];constructor
 ·rintro (h|⟨h1,h2⟩)
  ·exact .inl (Nat.le_of_ble_eq_true h)
  ·exact .inr ⟨Nat.eq_of_beq_eq_true h1,h2⟩
 ·rintro (h|⟨h1,h2⟩)
  ·exact .inl (Nat.ble_eq_true_of_le h)
  ·exact .inr ⟨by rw [h1];exact Nat.beq_refl _,h2⟩
theorem yj (p q:iC) (h:zK p q=true):zK q p=false:=by
 apply Classical.byContradiction;intro hc;rw [Bool.not_eq_false,AE] at hc;rw [AE] at h;rcases h with h|⟨h1,h2⟩
 ·rcases hc with h'|⟨KA,_⟩<;>omega
 ·rcases hc with h'|⟨KA,Df⟩
  ·omega
  ·rw [jt h2] at Df;cases Df
theorem Lx (x y z:iC) (h:zK x y=true) (h':zK z y=false):zK x z=true:=by
 rw [AE] at h⊢;have hn:¬(c4 64 y.2<c4 64 z.2∨(c4 64 z.2=c4 64 y.2∧Op.bytesLess z.1 y.1=true)):=fun hc=>by
  rw [←AE,h'] at hc;cases hc
 simp only [not_or,not_and] at hn;rcases h with h|⟨h1,h2⟩
 ·left;omega
 ·by_cases e:c4 64 z.2=c4 64 y.2
  ·right
   refine ⟨by omega,?_⟩;have hz:=hn.2 e;have YU:Op.bytesLess z.1 y.1=false:=by simpa using hz
   exact xX _ _ _ h2 YU
  ·left;omega
theorem Lw (p:iC):zK p p=false:=by
 cases h:zK p p with
 |false=>rfl
 |true=>rw [yj p p h] at h;cases h
theorem swo {μ:Mu}:Go.Sort.SWO (ltOf (Al.cf (μ:=μ))) where
 irrefl x:=by rw [AF,Lw]
 trans x y z h1 h2:=by
  rw [AF] at *;exact Lx _ _ _ h1 (yj _ _ h2)
 ntrans x y z h1 h2:=by
  rw [AF] at *;cases hc:zK x.1.1 z.1.1 with
  |false=>rfl
  |true=>
   have:=Lx _ _ _ hc h2;rw [h1] at this;cases this
theorem Qy (p:iC):aq.enc (cq.tc p)=iC.enc p:=by
 show [AV.str p.1,AV.cm 1 ((cq.wl p.2).map (aB .u64))]=[AV.str p.1,AV.cm 1 (bif Nat.beq p.2 0 then [] else [[.int .u64 (p.2:Int)]])]
 unfold cq.wl;cases Nat.beq p.2 0<;>rfl
theorem Zi {μ:Mu} {W:World} (fP:PS μ W) (x y:Al μ):Calls P 90 #[.agg x.cells.toArray, .agg y.cells.toArray] W fun e w'=>e= .returned (.int .i64 (Al.cf x y))∧∃q os',w'=Go.Sort.grow (W.drewN q) os':=by
 have hr:cq.Rn 90 [(.pv (.agg (iC.enc x.1.1))),(.pv (.agg (iC.enc y.1.1)))] []=some (.int .i64 (cq.Oh x.1.1 y.1.1),[]):=by
  have:=aH (EN cq.Q0) (cq.Rn 90 [(.pv (.agg (aq.enc (cq.tc x.1.1)))),(.pv (.agg (aq.enc (cq.tc y.1.1))))] []) _ (cq.i48 x.2.2 y.2.2);rw [Qy,Qy] at this;exact this
 have hs:=EE (q:=True) (B:=fun _ _=>none) ok Qd UH 90 _ [] _ _ hr W μ (fun _=>undef) [.agg x.cells.toArray, .agg y.cells.toArray] (fun _ _ _ h=>by cases h) fP (fun id o h=>by cases h) (fun i j oi oj h=>by cases h)
  ⟨_,_,rfl,(by show rep μ (.agg (iC.enc x.1.1)) _;rw [rep];exact ⟨_,rfl,x.2.1.1,x.2.1.2⟩),_,_,rfl,(by show rep μ (.agg (iC.enc y.1.1)) _;rw [rep];exact ⟨_,rfl,y.2.1.1,y.2.1.2⟩),rfl⟩
 refine hs.2.mono ?_
 rintro e w' ⟨v,μ',loc',rfl,hP⟩
 have hv:=hP.pure rfl;rw [rep] at hv;subst hv;refine ⟨rfl,w'.drawn-W.drawn,w'.heap.extract W.heap.size w'.heap.size,?_⟩;have hd:=hP.drawn trivial;have hheap:w'.heap=W.heap++w'.heap.extract W.heap.size w'.heap.size:=by
  apply Array.ext_getElem?;intro b;by_cases hb:b<W.heap.size
  ·rw [Array.getElem?_append_left hb]
   exact hP.keep b hb (by rintro ⟨id,v,h,_⟩;simp [gU] at h)
  ·rw [Array.getElem?_append_right (by omega),Array.getElem?_extract]
   have hg:=hP.grown;by_cases Us:b<w'.heap.size
   ·rw [if_pos (by omega),show W.heap.size+(b-W.heap.size)=b by omega]
   ·rw [if_neg (by omega),Array.getElem?_eq_none (by omega)]
 have ext:∀{a b:World},a.heap=b.heap→a.tape=b.tape→a.drawn=b.drawn→a.os=b.os→a.output=b.output→a=b:=by
  intro a b h1 h2 h3 h4 h5;cases a;cases b;simp only at h1 h2 h3 h4 h5;subst h1 h2 h3 h4 h5;rfl
 exact ext hheap hP.tape (show w'.drawn=W.drawn+(w'.drawn-W.drawn) by omega) hP.os hP.output
end Go.Proofs.YtmidjldjkbljjaaGreatDoor.cl
set_option linter.unusedVariables false
set_option linter.unusedSimpArgs false
namespace Go.Proofs.YtmidjldjkbljjaaGreatDoor.cl
open Go Go.AM Go.RowKit
open Go.Sort (flatK size_flatK get_flatK ext_get!)
theorem Py {ws:List (List AV)} {m:Nat} (h:CW ws=some m):ws=(bif Nat.beq m 0 then [] else [[.int .u64 (m:Int)]])∧m<18446744073709551616:=by
 unfold CW at h;split at h
 ·simp only [Option.some.injEq] at h;subst h;exact ⟨rfl,by decide⟩
 ·rename_i k
  obtain ⟨hb,hv⟩:=bM h;simp only [Bool.and_eq_true] at hb;simp only [Option.some.injEq] at hv;subst hv;have h1:0<k:=by have:=hb.1;simpa [Nat.blt_eq] using this
  have h2:k<18446744073709551616:=by have:=hb.2;simpa [Nat.blt_eq] using this
  refine ⟨?_,h2⟩;rw [cq.Y6 (by omega)];rfl
 ·cases h
theorem Oy:∀{xs:List (List AV)} {l:List iC},u5 xs=some l→xs=l.map iC.enc∧∀p∈l,p.2<18446744073709551616:=by
 intro xs
 induction xs with
 |nil=>intro l h;simp [u5] at h;subst h;exact ⟨rfl,by simp⟩
 |cons c xs ih=>
  intro l h;unfold u5 at h;split at h
  ·rename_i e;cases e
  ·rename_i s ws l' e
   injection e with e1 e2
   subst e1 e2;split at h
   ·rename_i w r hw hr
    simp only [Option.some.injEq] at h;subst h;obtain ⟨k1,k2⟩:=Py hw;obtain ⟨k3,k4⟩:=ih hr;refine ⟨?_,?_⟩
    ·rw [k1,k3];rfl
    ·intro p hp
     rcases List.mem_cons.1 hp with rfl|hp
     ·exact k2
     ·exact k4 p hp
   ·cases h
  ·cases h
theorem WI {μ:Mu}:∀{l:List iC} {vs:List Value},(∀p∈l,p.2<18446744073709551616)→cG μ 2 (l.map iC.enc) vs→∃jF:List (Al μ),jF.map (fun x=>x.1.1)=l∧vs=(jF.map Al.cells).flatten:=by
 intro l
 induction l with
 |nil=>intro vs _ h;exact ⟨[],rfl,h⟩
 |cons p l ih=>
  intro vs hl h;obtain ⟨us,ws,rfl,h1,h2,h3⟩:=h;obtain ⟨jF,e1,e2⟩:=ih (fun q hq=>hl q (by simp [hq])) h3;refine ⟨⟨(p,us),h1,hl p (by simp)⟩::jF,?_,?_⟩
  ·rw [List.map_cons,e1]
  ·rw [List.map_cons,List.flatten_cons,e2];rfl
theorem Yl {μ:Mu}:∀(jF:List (Al μ)),cG μ 2 (jF.map fun x=>iC.enc x.1.1) (jF.map Al.cells).flatten:=by
 intro jF
 induction jF with
 |nil=>rfl
 |cons x jF ih=>exact ⟨x.cells,(jF.map Al.cells).flatten,rfl,x.2.1,x.len,ih⟩
theorem vW {μ:Mu} (jF:List (Al μ)):(jF.map Al.cells).flatten.length=jF.length *2:=by
 induction jF with
 |nil=>rfl
 |cons x jF ih=>rw [List.map_cons,List.flatten_cons,List.length_append,ih,x.len,List.length_cons];omega
theorem QS {μ:Mu}:∀(jF:List (Al μ)) (t:Nat),t<jF.length *2→(jF.map Al.cells).flatten[t]! =(jF[t / 2]!).cells[t % 2]! :=by
 intro jF
 induction jF with
 |nil=>intro t h;simp at h
 |cons x jF ih=>
  intro t h;have hx:=x.len;have hf:=vW jF;rw [List.length_cons] at h;rw [List.map_cons,List.flatten_cons];by_cases h2:t<2
  ·have e1:t / 2=0:=by omega
   have e2:t % 2=t:=by omega
   rw [e1,e2,List.getElem!_eq_getElem?_getD,List.getElem?_append_left (by omega)];simp [List.getElem!_eq_getElem?_getD]
  ·obtain ⟨s,rfl⟩:∃s,t=s+2:=⟨t-2,by omega⟩
   have e1:(s+2) / 2=s / 2+1:=by omega
   have e2:(s+2) % 2=s % 2:=by omega
   have:=ih s (by omega);rw [List.getElem!_eq_getElem?_getD] at this;rw [e1,e2,List.getElem!_eq_getElem?_getD,List.getElem?_append_right (by omega),hx,show s+2-2=s by omega,this];simp [List.getElem!_eq_getElem?_getD]
theorem HT {μ:Mu} (jF:List (Al μ)):flatK Al.cells 2 jF.toArray=(jF.map Al.cells).flatten.toArray:=by
 refine ext_get! (by simp only [size_flatK,List.size_toArray];exact (vW jF).symm) fun t ht=> ?_
 have ht':t<jF.length *2:=by simpa using ht
 rw [get_flatK _ _ _ t (by simpa using ht')];have:=QS jF t ht';simp only [List.getElem!_toArray] at this⊢;exact this.symm
theorem L8 {l:List iC} (h:ni l=true):∀x∈l,∀y∈l,zK x y=false→zK y x=false→x=y:=by
 induction l with
 |nil=>intro x hx;cases hx
 |cons a l ih=>
  unfold ni at h;simp only [Bool.and_eq_true,List.all_eq_true,Bool.or_eq_true] at h;intro x hx y hy h1 h2;rcases List.mem_cons.1 hx with ex|hx'
  ·rcases List.mem_cons.1 hy with ey|hy'
   ·rw [ex,ey]
   ·subst ex
    rcases h.1 y hy' with h3|h3
    ·rw [h1] at h3;cases h3
    ·rw [h2] at h3;cases h3
  ·rcases List.mem_cons.1 hy with ey|hy'
   ·subst ey
    rcases h.1 x hx' with h3|h3
    ·rw [h2] at h3;cases h3
    ·rw [h1] at h3;cases h3
   ·exact ih h.2 x hx' y hy' h1 h2
theorem L4 {μ:Mu} {l:List iC} (hs:ni l=true) {jF:List (Al μ)} (e:jF.map (fun x=>x.1.1)=l) {d':Array (Al μ)} (hp:Go.Sort.PermIn 0 jF.toArray.size jF.toArray d') (hso:Go.Sort.SortedIn (ltOf Al.cf) 0 jF.toArray.size d'):
  d'.toList.map (fun x=>x.1.1)=eA zK l∧d'.toList.length=jF.length:=by
 obtain ⟨p1,_,p3⟩:=hp;have hsz:d'.size=jF.length:=by simpa using p1
 have e3:d'.toList.Perm jF:=by
  have h1:d'.extract 0 jF.toArray.size=d':=by
   rw [←p1];simp
  have h2:jF.toArray.extract 0 jF.toArray.size=jF.toArray:=by simp
  rw [h1,h2] at p3;simpa using p3
 refine ⟨?_,by simpa using hsz⟩;obtain ⟨s1,s2⟩:=mh zK yj Lx l;have hp':(d'.toList.map fun x=>x.1.1).Perm l:=by rw [←e];exact e3.map _
 refine tw (lt:=zK) (hp'.trans s2.symm) ?_ s1 ?_
 ·unfold fq
  rw [List.pairwise_map,List.pairwise_iff_getElem];intro i j hi hj hij;have hi':i<d'.size:=by simpa using hi
  have hj':j<d'.size:=by simpa using hj
  have:=hso i j (Nat.zero_le _) hij (by simpa [hsz] using hj');rw [AF,getElem!_pos d' j hj',getElem!_pos d' i hi'] at this;simpa using this
 ·intro x hx y hy
  exact L8 hs x (hp'.mem_iff.1 hx) y (hp'.mem_iff.1 hy)
theorem Uk (us:Array Value) (w2:World):(callFunc 90 us).run P w2= .ok (.enter 90 us) w2:=by
 have hname:¬(Tryz.f90.name= "runtime.NumGoroutine"):=by decide
 have hbody:Tryz.f90.body.isSome=true:=by rfl
 obtain ⟨c,hc⟩:=Option.isSome_iff_exists.1 hbody;simp [callFunc,Tryz.func90,hname,hc]
theorem Ys {μ:Mu} {loc:Nat→Value} {w:World} {l:List iC} (hlen:l.length≤1073741824) (hst:ni l=true) (hw:∀p∈l,p.2<18446744073709551616) (fP:PS μ w) (cU:gV w.heap.size (gU False loc [10000]) μ loc w 10000 (.row 108 2 (l.map iC.enc))):
  Calls P 89 #[loc 10000, .func (.func 90) #[] #[]] w fun e w'=>∃v μ' loc',e= .returned v∧fk False μ loc [10000] (.fG []) [(10000, .row 108 2 ((eA zK l).map iC.enc))] w v μ' loc' w':=by
 have ql:=cU;obtain ⟨vs,hown,hrc,tV⟩:=ql;rcases hown.2 with ⟨e1,h0⟩|⟨g,cap,cur,e1,_,hg,hcap,KG,hsz,qn⟩
 ·have hl:l=[]:=by
   cases l with
   |nil=>rfl
   |cons a b=>simp at h0
  subst hl;have hc:Calls P 89 #[.slice none 0 0, .func (.func 90) #[] #[]] w fun e w'=>e= .returned (.tuple #[])∧w'=w:=AnyF.slices_SortFunc_none Tryz.laysF6 none 0 _ w
  rw [e1];refine hc.mono ?_
  rintro e w' ⟨rfl,rfl⟩
  exact ⟨_,μ,loc,rfl,EF fP cU⟩
 ·obtain ⟨jF,ha1,ha2⟩:=WI hw hrc
  have hal:jF.length=l.length:=by rw [←ha1];simp
  have JT:(l.map iC.enc).length=jF.length:=by simp [hal]
  rw [JT] at e1 hcap qn;rw [ha2] at qn;have hfl:=vW jF;have hin:gi (loc 10000) g:=by rw [e1];exact fM.2 rfl
  obtain ⟨Rt,qk⟩:=tV g hin;have hlt:g<w.heap.size:=(Array.getElem?_eq_some_iff.1 hg).1;have hcell:∀(j:Nat),j<jF.length *2→cur[j]? =(jF.map Al.cells).flatten[j]? :=by
   intro j hj;have h1:(cur.toList.take (jF.length *2))[j]? =(jF.map Al.cells).flatten[j]? :=by rw [qn]
   rw [List.getElem?_take,if_pos hj] at h1;simpa using h1
  have hH:Go.Sort.HoldsK Al.cells 2 w g 0 jF.toArray:=by
   intro j hj;rw [HT] at hj⊢;have hj':j<jF.length *2:=by rw [←hfl];simpa using hj
   have hcj:=hcell j hj';have hjf:j<(jF.map Al.cells).flatten.length:=by omega
   rw [List.getElem?_eq_getElem hjf] at hcj;rw [Nat.zero_add];refine ⟨?_,?_⟩
   ·unfold World.cell?
    simp only [hg];rw [List.getElem!_toArray,List.getElem!_eq_getElem?_getD,List.getElem?_eq_getElem hjf];simp [hcj]
   ·unfold World.frozen?
    simp [hg]
  have hcmp:CmpLays P 90 #[] (Al.cells (μ:=μ)) 2 Al.cf g 0 jF.toArray.size w:=by
   intro m os dk hdk x y;refine Zi (W:=sortWorldK Al.cells 2 w g 0 m dk os) ?_ x y;obtain ⟨_,k2,_⟩:=Bn (enc:=id) (n:=m) (d:=flatK Al.cells 2 dk) (os:=os) hg;intro b j z hz;have h:=fP b j z hz;have hne:b≠g:=fun e=>by subst e;rw [qk j] at hz;cases hz
   exact (fT (k2 b (tu h) hne) j).trans h
  have hc:Calls P 89 #[.slice (some ⟨g,0,none⟩) jF.toArray.size cap, .func (.func 90) #[] #[]] w fun e w'=>e= .returned (.tuple #[])∧∃d' n os,Go.Sort.PermIn 0 jF.toArray.size jF.toArray d'∧Go.Sort.SortedIn (ltOf Al.cf) 0 jF.toArray.size d'∧w'=sortWorldK Al.cells 2 w g 0 n d' os:=
   AnyQ.slices_SortFunc Tryz.laysF6 2 Tryz.isAgg108 Tryz.sizeOf108 Al.cells Al.len Al.one Al.cf swo 90 #[] g 0 cap jF.toArray w Uk hcmp hH hlt (by simp;omega)
  have rV:Calls P 89 #[.slice (some ⟨g,0,none⟩) jF.length cap, .func (.func 90) #[] #[]] w fun e w'=>e= .returned (.tuple #[])∧∃d' n os,Go.Sort.PermIn 0 jF.toArray.size jF.toArray d'∧Go.Sort.SortedIn (ltOf Al.cf) 0 jF.toArray.size d'∧w'=sortWorldK Al.cells 2 w g 0 n d' os:=by
   simpa using hc
  rw [e1];refine rV.mono ?_
  rintro e w' ⟨rfl,d',n,os,hp,hso,rfl⟩
  obtain ⟨q1,q2⟩:=L4 hst ha1 hp hso;have Xk:=vW d'.toList;have hfa:flatK Al.cells 2 d'=(d'.toList.map Al.cells).flatten.toArray:=by
   have:=HT d'.toList;simpa using this
  obtain ⟨k1,k2,k3⟩:=Bn (enc:=id) (n:=n) (d:=flatK Al.cells 2 d') (os:=os) hg;obtain ⟨t1,t2⟩:=JK (enc:=id) (l:=(d'.toList.map Al.cells).flatten) (cur:=cur) (by rw [Xk,q2,hsz];omega);rw [←hfa] at t1 t2;rw [List.map_id] at t2;have hil:(eA zK l).length=jF.length:=by rw [←q1,List.length_map,q2]
  refine ⟨_,μ,loc,rfl,EG (cur:=cur) (us:=(d'.toList.map Al.cells).flatten) fP e1 hcap KG hsz Rt qk k1 t1 (by rw [←q2,←Xk];exact t2) (by rw [Xk,q2]) k2 rfl rfl rfl k3 (by rw [List.length_map,hil]) ?_⟩;rw [←q1,List.map_map];exact Yl d'.toList
end Go.Proofs.YtmidjldjkbljjaaGreatDoor.cl
set_option linter.unusedVariables false
set_option linter.unusedSimpArgs false
namespace Go.Proofs.YtmidjldjkbljjaaGreatDoor.cl
open Go Go.AM Go.RowKit
theorem EH:∀{xs:List (List AV)} {l:List (List UInt8)},strs xs=some l→xs=l.map aA:=by
 intro xs
 induction xs with
 |nil=>intro l h;simp [strs] at h;subst h;rfl
 |cons c xs ih=>
  intro l h;unfold strs at h;split at h
  ·rename_i e;cases e
  ·rename_i s l' e
   injection e with e1 e2
   subst e1 e2;simp only [Option.map_eq_some_iff] at h;obtain ⟨m,hm,rfl⟩:=h;rw [ih hm];rfl
  ·cases h
theorem IB (sep:List UInt8):∀l:List (List UInt8),jg sep l=Lib.join l sep:=by
 intro l;cases l with
 |nil=>rfl
 |cons x l=>
  rw [Lib.join_cons]
  induction l generalizing x with
  |nil=>simp [jg,Lib.joinTail]
  |cons y l ih=>
   simp only [jg,ih y,Lib.joinTail,List.map_cons,List.flatten_cons,List.append_assoc]
theorem AH {μ:Mu} {loc:Nat→Value} {w w':World} {r:AV} {v:Value} (hp:PS μ w) (hb:Below w.heap.size w w') (hr:rep μ r v):fk False μ loc [] r [] w v μ loc w' where
 ext:=⟨Mu.le.refl _,fun _ _ _ h=> .inl h⟩
 r7:=fun b j x hx=>by
  have h:=hp b j x hx;rw [fT (hb.block b (tu h)) j];exact h
 res:= .inl hr
 obs:=fun id o h=>by cases h
 apart:=fun i j oi oj h=>by cases h
 keep:=fun b hlt _=>hb.block b hlt
 fix:=fun id h=>by cases h
 os:=hb.os
 tape:=hb.tape
 output:=hb.output
 grown:=hb.size
 drawn:=fun h=>h.elim
theorem Ul (us:Array Value) (w2:World):(callFunc 87 us).run P w2= .ok (.enter 87 us) w2:=by
 have hname:¬(Tryz.f87.name= "runtime.NumGoroutine"):=by decide
 have hbody:Tryz.f87.body.isSome=true:=by rfl
 obtain ⟨c,hc⟩:=Option.isSome_iff_exists.1 hbody;simp [callFunc,Tryz.func87,hname,hc]
def TG:Mu:=fun b j=>if b=0∧j<64 then some (.int .u8 (Lib.deBruijn64tab.getD j 0)) else none
theorem QC (us:Array Value) (w2:World):(callFunc 141 us).run P w2= .ok (.enter 141 us) w2:=by
 have hname:¬(Tryz.f141.name= "runtime.NumGoroutine"):=by decide
 have hbody:Tryz.f141.body.isSome=true:=by rfl
 obtain ⟨c,hc⟩:=Option.isSome_iff_exists.1 hbody;simp [callFunc,Tryz.func141,hname,hc]
theorem NW:∀(k n:Nat),tz k n=Lib.ctzFrom k n
 |0,_=>rfl
 |k+1,n=>by
  rw [tz,Lib.ctzFrom,NW k];by_cases h:n % 2=1
  ·simp [h]
  ·have hb:Nat.beq (n % 2) 1=false:=by
    cases hb:Nat.beq (n % 2) 1 with
    |false=>rfl
    |true=>exact absurd (Nat.eq_of_beq_eq_true hb) h
   rw [if_neg h,hb];rfl
theorem Yz (n:Nat):tz 64 n=Lib.ctz 64 n:=by
 rw [NW,Lib.ctz];split
 ·rename_i h;subst h;decide
 ·rfl
theorem iG {n0:Nat} {L:lp} {μ:Mu} {loc:Nat→Value} {w:World} {id e sz:Nat} {xs:List (List AV)} (h:gV n0 L μ loc w id (.row e sz xs)):dR (loc id)=loc id:=by
 obtain ⟨vs,hown,_⟩:=h;rcases hown.2 with ⟨e1,_⟩|⟨g,cap,cur,e1,_⟩
 ·rw [e1];rfl
 ·rw [e1];rfl
theorem QB (us:Array Value) (w2:World):(callFunc 135 us).run P w2= .ok (.enter 135 us) w2:=by
 have hname:¬(Tryz.f135.name= "runtime.NumGoroutine"):=by decide
 have hbody:Tryz.f135.body.isSome=true:=by rfl
 obtain ⟨c,hc⟩:=Option.isSome_iff_exists.1 hbody;simp [callFunc,Tryz.func135,hname,hc]
theorem Um (us:Array Value) (w2:World):(callFunc 89 us).run P w2= .ok (.enter 89 us) w2:=by
 have hname:¬(Tryz.f89.name= "runtime.NumGoroutine"):=by decide
 have hbody:Tryz.f89.body.isSome=true:=by rfl
 obtain ⟨c,hc⟩:=Option.isSome_iff_exists.1 hbody;simp [callFunc,Tryz.func89,hname,hc]
theorem Ts:eF False TG P Ey:=by
 intro g args bU r dP hv w μ loc us hB fP qU hap yc;unfold Ey at hv;split at hv
 ·rename_i xs sep
  split at hv
  ·rename_i l hl
   obtain ⟨hb,hv⟩:=bM hv;simp only [Bool.and_eq_true] at hb;have h1:=Nat.le_of_ble_eq_true hb.1;have h2:=Nat.le_of_ble_eq_true hb.2;simp only [Option.some.injEq,Prod.mk.injEq] at hv;obtain ⟨rfl,rfl⟩:=hv;have hxs:=EH hl;subst hxs;obtain ⟨u0,us1,rfl,Io,KK⟩:=yc;obtain ⟨u1,us2,rfl,YQ,XD⟩:=KK;have:us2=[]:=XD;subst this;have Di:rep μ (.cm 1 (l.map aA)) u0:=Io;have KJ:rep μ (.str sep) u1:=YQ;rw [rep.eq_def] at Di;rw [rep.eq_def] at KJ;dsimp only at Di KJ;subst KJ;obtain ⟨A,c,rfl,hc1,Dh,hA⟩:=Di;refine ⟨fun w2=> ?_,?_⟩
   ·exact Ul _ w2
   ·rcases hA with h0|⟨b,off,rfl,hrow⟩
    ·have hl0:l=[]:=by simpa using h0
     subst hl0;refine (Tryz.strings_Join_none A c ⟨sep.toArray⟩ w).mono ?_
     rintro e w' ⟨rfl,rfl⟩
     exact ⟨_,μ,loc,rfl,AH fP (Below.refl _ _) (by rw [rep];rfl)⟩
    ·cases PE:l with
     |nil=>
      subst PE;refine (Tryz.strings_Join_none (some ⟨b,off,none⟩) c ⟨sep.toArray⟩ w).mono ?_
      rintro e w' ⟨rfl,rfl⟩
      exact ⟨_,μ,loc,rfl,AH fP (Below.refl _ _) (by rw [rep];rfl)⟩
     |cons x0 l0=>
      rw [←PE];have hcell:∀(j:Nat) s,l[j]? =some s→μ b (off+j)=some (.string ⟨s.toArray⟩):=by
       intro j s hs;obtain ⟨vs,k1,k2,k3⟩:=B4 hrow (i:=j) (x:=aA s) (by simp [hs]);have k1':=k1.1;simp only [aA,bF] at k1';obtain ⟨u,us,rfl,hu,rfl⟩:=k1';rw [rep] at hu;subst hu;have:=k3 0 _ rfl;simpa using this
      have hlt:b<w.heap.size:=tu (fP _ _ _ (hcell 0 x0 (by simp [PE])));have e1:(l.map fun s=>(⟨s.toArray⟩:ByteArray)).map (·.data.toList)=l:=by
       rw [List.map_map];simp [Function.comp_def]
      have:=Tryz.strings_Join b off c (l.map fun s=>⟨s.toArray⟩) ⟨sep.toArray⟩ w (fun j x hx=>by
       simp only [List.getElem?_map,Option.map_eq_some_iff] at hx;obtain ⟨s,hs,rfl⟩:=hx
       exact tr (fP _ _ _ (hcell j s hs)) rfl) hlt (by simpa using h2) (by simpa using hc1) (by rw [e1,←IB];exact h1)
      rw [e1,←IB,List.length_map] at this;rw [List.length_map];refine this.mono ?_
      rintro e w' ⟨rfl,hbw⟩
      exact ⟨_,μ,loc,rfl,AH fP hbw (by rw [rep])⟩
  ·cases hv
 ·rename_i n
  split at hv
  ·rename_i m
   obtain ⟨hb,hv⟩:=bM hv;have hm:m<18446744073709551616:=by simpa [Nat.blt_eq] using hb
   simp only [Option.some.injEq,Prod.mk.injEq] at hv;obtain ⟨rfl,rfl⟩:=hv;obtain ⟨u0,us1,rfl,Io,KK⟩:=yc;have:us1=[]:=KK;subst this;have Di:rep μ (.int .u64 (Int.ofNat m)) u0:=Io;rw [rep] at Di;subst Di;refine ⟨fun w2=>QC _ w2,?_⟩;have htab:TabAt 0 Lib.deBruijn64tab w:=by
    intro j hj;have hj64:j<64:=hj;exact tr (fP 0 j _ (hB 0 j _ (by simp only [TG];rw [if_pos ⟨trivial,hj64⟩]))) rfl
   refine (Any7.bits_TrailingZeros64 Tryz.lays29 m hm w (fun _=>htab)).mono ?_
   rintro e w' ⟨rfl,rfl⟩
   exact ⟨_,μ,loc,rfl,AH fP (Below.refl _ _) (by rw [rep,Yz])⟩
  ·cases hv
 ·rename_i xs
  split at hv
  ·rename_i l hl
   obtain ⟨hb,hv⟩:=bM hv;simp only [Option.some.injEq,Prod.mk.injEq] at hv;obtain ⟨rfl,rfl⟩:=hv;have hxs:=EH hl;subst hxs;obtain ⟨u0,us1,rfl,Io,KK⟩:=yc;have:us1=[]:=KK;subst this;have Di:u0=loc 10000:=(show u0=dR (loc 10000) from Io).trans (iG (qU 10000 _ rfl));subst Di;exact ⟨fun w2=>QB _ w2,Yt (Nat.le_of_ble_eq_true hb) fP (qU 10000 _ rfl)⟩
  ·cases hv
 ·cases hv
theorem gm:eF False TG P dg:=by
 intro g args bU r dP hv w μ loc us hB fP qU hap yc;unfold dg at hv;split at hv
 ·rename_i xs
  split at hv
  ·rename_i l hl
   obtain ⟨hb,hv⟩:=bM hv;simp only [Bool.and_eq_true] at hb;simp only [Option.some.injEq,Prod.mk.injEq] at hv;obtain ⟨rfl,rfl⟩:=hv;obtain ⟨hxs,hlt⟩:=Oy hl;subst hxs;obtain ⟨u0,us1,rfl,Io,KK⟩:=yc;obtain ⟨u1,us2,rfl,YQ,XD⟩:=KK;have:us2=[]:=XD;subst this;have Di:u0=loc 10000:=(show u0=dR (loc 10000) from Io).trans (iG (qU 10000 _ rfl));subst Di;have KJ:rep μ (.fn 90 []) u1:=YQ;rw [rep.eq_def] at KJ;dsimp only at KJ;obtain ⟨vs,rfl,hvs⟩:=KJ;have:vs=[]:=hvs;subst this;exact ⟨fun w2=>Um _ w2,Ys (Nat.le_of_ble_eq_true hb.2) hb.1 hlt fP (qU 10000 _ rfl)⟩
  ·cases hv
 ·exact Ts g args bU r dP hv w μ loc us hB fP qU hap yc
end Go.Proofs.YtmidjldjkbljjaaGreatDoor.cl
