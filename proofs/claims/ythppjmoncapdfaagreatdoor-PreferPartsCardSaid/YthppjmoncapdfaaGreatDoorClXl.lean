/- Unification by classes (the program's). -/
import Derived.Test.YthppjmoncapdfaaGreatDoorClXe
set_option linter.unusedVariables false
set_option linter.unusedSimpArgs false
set_option linter.unusedSectionVars false
namespace Go.Proofs.YthppjmoncapdfaaGreatDoor.cl.pf
open Go Go.AM
def Gx (G:Gr) (o:List Nat) (y:Nat):Node:=⟨G.ty y,(G.sc y).map fun p=>⟨p.1,(o.idxOf p.2:Nat)⟩⟩
theorem Gi {o o':List Nat} (h:o<+:o') {x:Nat} (hx:x∈o):o'.idxOf x=o.idxOf x:=by
 obtain ⟨t,rfl⟩:=h;rw [List.idxOf_append,if_pos hx]
theorem VN {G:Gr} {o o':List Nat} (h:o<+:o') {y:Nat} (hy:∀p∈G.sc y,p.2∈o):Gx G o y=Gx G o' y:=by
 unfold Gx
 congr 1
 exact List.map_congr_left fun p hp=>by rw [Gi h (hy p hp)]
structure NO (n:Nat) (num:List Int) (o:List Nat):Prop where
 len:num.length=n
 at_:∀x,x<n→num.getD x 0=if x∈o then (o.idxOf x:Int) else-1
theorem NO.snoc {n:Nat} {num:List Int} {o:List Nat} (h:NO n num o) {y:Nat} (hy:y<n) (hno:y∉o):NO n (num.set y (o.length:Int)) (o++[y]):=by
 refine ⟨by rw [List.length_set];exact h.len,fun x hx=> ?_⟩;rw [dS];by_cases e:y=x
 ·subst e
  rw [if_pos ⟨rfl,by rw [h.len];exact hy⟩,if_pos (by simp),List.idxOf_append,if_neg hno];simp
 ·rw [if_neg (fun h=>e h.1),h.at_ x hx]
  by_cases hx2:x∈o
  ·rw [if_pos hx2,if_pos (by simp [hx2]),List.idxOf_append,if_pos hx2]
  ·rw [if_neg hx2,if_neg (by simp [hx2];exact fun h=>e h.symm)]
section
variable {T F n:Nat} {TL:List aX} {FL:List au} {ty:List Int} {ar:List (List aF)} {rep d:Nat→Nat}
variable (la:ar.length=n) (lt:ty.length=n) (hao:∀x,x<n→AO F n (ar.getD x [])) (hrl:∀x,x<n→rep x<n) (hrr:∀x,x<n→rep (rep x)=rep x) (hF:F≤1000000) (hn:n≤1000000)
include hao hrl in
theorem RK:Bd (gH ty ar rep).sc n:=fun x hx p hp=>by
 obtain ⟨a,ha,rfl⟩:=List.mem_map.1 hp;exact hrl _ (by have:=((hao x hx).ok a ha).2;omega)
def ZE (n:Nat) (G:Gr) (rep d:Nat→Nat) (ty:List Int) (ar:List (List aF)) (res:Option (Int×List Int×List Node×List Int×List Int×List (List aF))) (at_:Nat) (o o':List Nat) (out:List Node):Prop:=
 ∃num' par',res=some ((at_:Int),num',out++(o'.drop o.length).map (Gx G o'),par',ty,ar)∧NO n num' o'∧PI n par' rep d
include la lt hao hrl hF hn
theorem X2 {k:Nat} {o:List Nat} {y:Nat} {out:List Node} (hy:y<n) (hyo:y∉o) (hout:out.length=o.length)
  (ih:∀(x:Nat) (o:List Nat) (num:List Int) (out:List Node) (par:List Int),x<n→NO n num o→PI n par rep d→Met n o→n<k+o.length→out.length=o.length→
   ZE n (gH ty ar rep) rep d ty ar (f487 (x:Int) TL FL num out par ty ar) ((lg (gH ty ar rep).sc k (rep x) o).idxOf (rep x)) o (lg (gH ty ar rep).sc k (rep x) o) out):
  ∀(l:List aF) (i:Nat) (oj:List Nat) (num par:List Int),(ar.getD y []).drop i=l→NO n num oj→PI n par rep d→Met n oj→o++[y]<+:oj→n<k+oj.length→
   (∀z∈oj.drop (o.length+1),∀p∈(gH ty ar rep).sc z,p.2∈oj)→(∀a∈(ar.getD y []).take i,rep a.To.toNat∈oj)→
   ∃num' par',Iy (o.length:Int) (ar.getD y []) ((ar.getD y []).length:Int) (i:Int) (((ar.getD y []).take i).map fun a=>⟨a.aP,(oj.idxOf (rep a.To.toNat):Nat)⟩) TL FL num ((out++[⟨ty.getD y 0,[]⟩])++(oj.drop (o.length+1)).map (Gx (gH ty ar rep) oj)) par ty ar=
    some ((o.length:Int),num',(out++[Gx (gH ty ar rep) (oz (gH ty ar rep).sc k (l.map fun a=>(a.aP,rep a.To.toNat)) oj) y])++((oz (gH ty ar rep).sc k (l.map fun a=>(a.aP,rep a.To.toNat)) oj).drop (o.length+1)).map (Gx (gH ty ar rep) (oz (gH ty ar rep).sc k (l.map fun a=>(a.aP,rep a.To.toNat)) oj)),par',ty,ar)∧
    NO n num' (oz (gH ty ar rep).sc k (l.map fun a=>(a.aP,rep a.To.toNat)) oj)∧PI n par' rep d:=by
 have hB:Bd (gH ty ar rep).sc n:=RK hao hrl;have hal:=(hao y hy).len;intro l
 induction l with
 |nil=>
  intro i oj num par hd hN hP hM hpre hk Bg hacc;refine ⟨num,par,Tt _ _ _ _ _ _ _ _ _ _ _ _ ?_,hN,hP⟩;rw [dm hd,cond_false,xM (by simp;omega),Int.toNat_natCast,gq (x:=⟨ty.getD y 0,[]⟩) (by rw [List.getElem?_append_left (by simp;omega),List.getElem?_append_right (by omega),hout];simp)];have e1:(ar.getD y []).take i=ar.getD y []:=List.take_of_length_le (nw hd);rw [e1];simp only [List.map_nil,oz,List.foldl_nil]
  congr 4
  rw [List.set_append_left _ _ (by simp;omega),List.set_append_right _ _ (by omega),hout,Nat.sub_self,List.set_cons_zero]
  congr 3
  unfold Gx gH;simp only [List.map_map];rfl
 |cons a l ih2=>
  intro i oj num par hd hN hP hM hpre hk Bg hacc;have ha:a∈ar.getD y []:=List.mem_of_getElem? (dG hd);have hok:=((hao y hy).ok a ha).2;obtain ⟨x,hx⟩:=Int.eq_ofNat_of_zero_le hok.1;have Sw:x<n:=by omega
  have Zq:a.To.toNat=x:=by omega
  have hol:o.length+1≤oj.length:=by have:=hpre.length_le;simpa using this
  obtain ⟨num',par',f1,N1,P1⟩:=ih x oj num ((out++[⟨ty.getD y 0,[]⟩])++(oj.drop (o.length+1)).map (Gx (gH ty ar rep) oj)) par Sw hN hP hM hk (by simp;omega);have AA:=BJ (sc:=(gH ty ar rep).sc) k (rep x) oj;have hM2:=vq hB k (rep x) oj hM (hrl x Sw);obtain ⟨c1,c2⟩:=tG hB k (rep x) oj hM (hrl x Sw) hk;have hlen2:=AA.length_le
  obtain ⟨num2,par2,g1,g2,g3⟩:=ih2 (i+1) (lg (gH ty ar rep).sc k (rep x) oj) num' par' (cH hd) N1 P1 hM2 (hpre.trans AA) (by omega) (fun z hz p hp=>by
    by_cases h2:z∈oj.drop (o.length+1)
    ·exact AA.subset (Bg z h2 p hp)
    ·by_cases h3:z∈oj
     ·obtain ⟨t,ht⟩:=AA
      rw [←ht,List.drop_append_of_le_length hol] at hz;rcases List.mem_append.1 hz with hz|hz
      ·exact absurd hz h2
      ·have:=hM2.nd
       rw [←ht,List.nodup_append] at this;exact absurd rfl (this.2.2 z h3 z hz)
     ·exact c2 z (List.mem_of_mem_drop hz) h3 p hp) (fun b hb=>by
    rw [List.take_add_one] at hb;rcases List.mem_append.1 hb with hb|hb
    ·exact AA.subset (hacc b hb)
    ·rw [dG hd] at hb
     simp at hb;subst hb
     rw [Zq];exact c1)
  refine ⟨num2,par2,Tt _ _ _ _ _ _ _ _ _ _ _ _ ?_,?_,g3⟩
  ·have hcat:(out++[⟨ty.getD y 0,[]⟩])++(oj.drop (o.length+1)).map (Gx (gH ty ar rep) oj)++((lg (gH ty ar rep).sc k (rep x) oj).drop oj.length).map (Gx (gH ty ar rep) (lg (gH ty ar rep).sc k (rep x) oj))=
     (out++[⟨ty.getD y 0,[]⟩])++((lg (gH ty ar rep).sc k (rep x) oj).drop (o.length+1)).map (Gx (gH ty ar rep) (lg (gH ty ar rep).sc k (rep x) oj)):=by
    rw [List.append_assoc];refine congrArg (fun z=>(out++[(⟨ty.getD y 0,[]⟩:Node)])++z) ?_;have e1:(oj.drop (o.length+1)).map (Gx (gH ty ar rep) oj)=(oj.drop (o.length+1)).map (Gx (gH ty ar rep) (lg (gH ty ar rep).sc k (rep x) oj)):=
     List.map_congr_left fun z hz=>VN AA (Bg z hz)
    rw [e1,←List.map_append];refine congrArg (List.map _) ?_;obtain ⟨t,ht⟩:=AA;rw [←ht,List.drop_left,List.drop_append_of_le_length hol]
   have Z8:(((ar.getD y []).take i).map fun a=>(⟨a.aP,(oj.idxOf (rep a.To.toNat):Nat)⟩:aF))++[⟨a.aP,((lg (gH ty ar rep).sc k (rep x) oj).idxOf (rep x):Nat)⟩]=
     ((ar.getD y []).take (i+1)).map fun a=>(⟨a.aP,((lg (gH ty ar rep).sc k (rep x) oj).idxOf (rep a.To.toNat):Nat)⟩:aF):=by
    rw [List.take_add_one,dG hd,List.map_append];rw [List.map_congr_left (g:=fun a=>(⟨a.aP,((lg (gH ty ar rep).sc k (rep x) oj).idxOf (rep a.To.toNat):Nat)⟩:aF)) fun b hb=>by rw [Gi AA (hacc b hb)]];simp [Zq]
   have hlt:=gA hd;rw [cR hd,cond_true,bX hd,hx,f1,Cb,cM _ (by rw [List.length_map,List.length_take];omega) (by simp) (by omega),dA hd (by omega),hcat];have:=Z8;rw [this,g1];simp only [List.map_cons,oz,List.foldl_cons,Zq]
  ·simp only [List.map_cons,oz,List.foldl_cons,Zq];exact g2
include hrr in
theorem h487:∀(k x:Nat) (o:List Nat) (num:List Int) (out:List Node) (par:List Int),x<n→NO n num o→PI n par rep d→Met n o→n<k+o.length→out.length=o.length→
  ZE n (gH ty ar rep) rep d ty ar (f487 (x:Int) TL FL num out par ty ar) ((lg (gH ty ar rep).sc k (rep x) o).idxOf (rep x)) o (lg (gH ty ar rep).sc k (rep x) o) out:=by
 have hB:Bd (gH ty ar rep).sc n:=RK hao hrl;intro k
 induction k with
 |zero=>intro x o num out par hx hN hP hM hk _;have:=tQ hM.nd hM.lt;omega
 |succ k ih=>
  intro x o num out par hx hN hP hM hk hout;obtain ⟨par1,f1,P1⟩:=Xz (TL:=TL) (FL:=FL) (ty:=ty) (ar:=ar) hx hP;have hy:=hrl x hx;have hnl:rep x<num.length:=by rw [hN.len];exact hy
  have htl:rep x<ty.length:=by rw [lt];exact hy
  have hal:rep x<ar.length:=by rw [la];exact hy
  have hol:=tQ hM.nd hM.lt;by_cases hm:rep x∈o
  ·have ev:lg (gH ty ar rep).sc (k+1) (rep x) o=o:=by rw [lg,if_pos hm]
   rw [ev];refine ⟨num,par1,e487 _ _ _ _ _ _ _ _ ?_,hN,P1⟩;rw [f1,gp,By hnl,hN.at_ _ hy,if_pos hm,cond_pos (by rw [decide_eq_true_iff];omega),By hnl,hN.at_ _ hy,if_pos hm];simp
  ·have ev:lg (gH ty ar rep).sc (k+1) (rep x) o=oz (gH ty ar rep).sc k ((ar.getD (rep x) []).map fun a=>(a.aP,rep a.To.toNat)) (o++[rep x]):=by rw [lg,if_neg hm];rfl
   have hM2:=hM.snoc hy hm;obtain ⟨num',par',g1,g2,g3⟩:=X2 (TL:=TL) (FL:=FL) (d:=d) la lt hao hrl hF hn hy hm hout ih (ar.getD (rep x) []) 0 (o++[rep x]) (num.set (rep x) (o.length:Int)) par1 rfl (hN.snoc hy hm) P1 hM2 (List.prefix_refl _) (by simp only [List.length_append,List.length_singleton];omega)
    (fun z hz=>by rw [List.drop_eq_nil_of_le (by simp)] at hz;cases hz) (fun b hb=>by cases hb)
   rw [ev];have hpre:=uY (sc:=(gH ty ar rep).sc) k ((ar.getD (rep x) []).map fun a=>(a.aP,rep a.To.toNat)) (o++[rep x]);generalize oz (gH ty ar rep).sc k ((ar.getD (rep x) []).map fun a=>(a.aP,rep a.To.toNat)) (o++[rep x])=o' at *;have CC:o'.idxOf (rep x)=o.length:=by
    rw [Gi hpre (by simp),List.idxOf_append,if_neg hm];simp
   refine ⟨num',par',e487 _ _ _ _ _ _ _ _ ?_,g2,g3⟩;rw [f1,gp,By hnl,hN.at_ _ hy,if_neg hm,cond_neg (by rfl),By hnl,By htl,cM _ (by omega) (by simp) (by omega),rdL hal,Int.toNat_natCast,hout,CC];rw [List.drop_eq_nil_of_le (by simp),List.map_nil,List.append_nil,List.take_zero,List.map_nil] at g1;have e0:((0:Nat):Int)=0:=rfl;rw [e0] at g1;rw [g1];have hfin:(out++[Gx (gH ty ar rep) o' (rep x)])++(o'.drop (o.length+1)).map (Gx (gH ty ar rep) o')=out++(o'.drop o.length).map (Gx (gH ty ar rep) o'):=by
    have e2:o'.drop o.length=rep x::o'.drop (o.length+1):=by
     obtain ⟨t,ht⟩:=hpre;rw [←ht,List.append_assoc,List.drop_left,←List.append_assoc,List.drop_append_of_le_length (by simp),List.drop_eq_nil_of_le (by simp)];rfl
    rw [e2,List.map_cons,List.append_assoc];rfl
   rw [hfin]
theorem h444 {root:Nat} {f0:FSt} {o5:List Int} {res:FSt×List Int×List Int×List (List aF)} {par:List Int}:∀(k i:Nat),n=i+k→
  (I5 (f487 (root:Int) TL FL (List.replicate n (-1)) ([]:List Node) par ty ar) fun cS jG tH mC Ab oC=>some ((FSt.mk tH),mC,Ab,oC))=some res→
  DS (root:Int) (n:Int) (i:Int) f0 (List.replicate i (-1)++List.replicate k 0) o5 TL FL par ty ar=some res:=by
 intro k
 induction k with
 |zero=>
  intro i hi hr;refine Tq _ _ _ _ _ _ _ _ _ _ _ ?_;have:i=n:=by omega
  subst this;rw [cond_neg (by rw [decide_eq_false_iff_not];omega),List.replicate_zero,List.append_nil];exact hr
 |succ k ih=>
  intro i hi hr;refine Tq _ _ _ _ _ _ _ _ _ _ _ ?_;have hl:i<(List.replicate i (-1:Int)++List.replicate (k+1) 0).length:=by simp
  rw [cond_pos (by rw [decide_eq_true_iff];omega),By hl,Int.toNat_natCast,cU (by omega)];have e:(List.replicate i (-1:Int)++List.replicate (k+1) 0).set i (-1)=List.replicate (i+1) (-1)++List.replicate k 0:=by
   rw [List.set_append_right _ _ (by simp),List.length_replicate,Nat.sub_self,List.replicate_succ,List.set_cons_zero,List.replicate_succ'];simp
  rw [e];exact ih (i+1) (by omega) hr
include hrr in
theorem c444 {root:Nat} {par:List Int} (hr:root<n) (P:PI n par rep d):∃par',f444 (root:Int) TL FL par ty ar=some (iz (gH ty ar rep) n (rep root),par',ty,ar):=by
 have hN:NO n (List.replicate n (-1)) []:=⟨by simp,fun x hx=>by
  rw [if_neg (by simp),List.getD_eq_getElem?_getD,List.getElem?_replicate,if_pos hx];rfl⟩
 obtain ⟨num',par',f1,_,_⟩:=h487 (TL:=TL) (FL:=FL) (d:=d) la lt hao hrl hrr hF hn (n+1) root [] (List.replicate n (-1)) [] par hr hN P Met.nil (by simp) rfl;refine ⟨par',e444 _ _ _ _ _ _ ?_⟩;rw [bY ⟨by omega,by omega,by rw [P.len];omega,by rw [P.len];omega⟩,P.len,Int.toNat_natCast,List.length_replicate];have:=h444 (TL:=TL) (FL:=FL) (root:=root) (f0:=⟨[]⟩) (o5:=[]) (par:=par) la lt hao hrl hF hn n 0 (by omega) (by rw [f1,Cb]);rw [List.replicate_zero,List.nil_append] at this;exact this
end
end Go.Proofs.YthppjmoncapdfaaGreatDoor.cl.pf
set_option linter.unusedVariables false
set_option linter.unusedSimpArgs false
set_option linter.unusedSectionVars false
namespace Go.Proofs.YthppjmoncapdfaaGreatDoor.cl.pf
open Go Go.AM
def KL (k:Nat) (l:List aF):List aF:=l.map fun a=>⟨a.aP,a.To+k⟩
def ids (s k:Nat):List Int:=(List.range' s k).map fun (x:Nat)=>(x:Int)
theorem SB (s k:Nat):ids s (k+1)=(s:Int)::ids (s+1) k:=by simp [ids,List.range'_succ]
theorem x5 (s k:Nat):(ids s k).length=k:=by simp [ids]
theorem Og (s k j:Nat):ids s k++ids (s+k) j=ids s (k+j):=by
 unfold ids;rw [←List.map_append,List.range'_append_1]
theorem SA {k x:Nat} (h:x<k):(ids 0 k).getD x 0=(x:Int):=by
 unfold ids;rw [List.getD_eq_getElem?_getD,List.getElem?_map,List.getElem?_range' (by omega)];simp
section
variable {TL:List aX} {FL:List au}
theorem XZ {fr:Nat} {l:List Node} {n v:Int} {Ll:List aF} {x:Node} {par ty:List Int} {ar:List (List aF)} {res:Unit×List Int×List Int×List (List aF)} (hf:fr≤1000000) (hl:Ll.length≤1000000) (hto:∀a∈Ll,0≤a.To∧a.To≤1000000) (har:ar.length≤100000000):
  ∀(xs:List aF) (i:Nat),Ll.drop i=xs→DR fr l n (IntKind.wrap .i64 (v+1)) TL FL par ty (ar++[KL fr Ll])=some res→
   Ir fr l n v Ll (Ll.length:Int) (i:Int) x (KL fr (Ll.take i)) TL FL par ty ar=some res:=by
 intro xs
 induction xs with
 |nil=>
  intro i hd hr;refine Tp _ _ _ _ _ _ _ _ _ _ _ _ _ _ ?_;rw [dm hd,cond_false,cM _ (by omega) (by simp) (by omega),List.take_of_length_le (nw hd)];exact hr
 |cons a xs ih=>
  intro i hd hr;refine Tp _ _ _ _ _ _ _ _ _ _ _ _ _ _ ?_;have ha:=hto a (List.mem_of_getElem? (dG hd));have hlt:=gA hd;rw [cR hd,cond_true,bX hd,cM _ (by unfold KL;rw [List.length_map,List.length_take];omega) (by simp) (by omega),dA hd (by omega),iK (by omega) (by omega)];have e:KL fr (Ll.take i)++[⟨a.aP,a.To+fr⟩]=KL fr (Ll.take (i+1)):=by
   rw [List.take_add_one,dG hd];simp [KL]
  rw [e];exact ih (i+1) (cH hd) hr
theorem XY {fr:Nat} {l:List Node} (hf:fr+l.length≤1000000) (hl:∀x∈l,x.cO.length≤1000000∧∀a∈x.cO,0≤a.To∧a.To≤1000000):∀(xs:List Node) (i:Nat) (par ty:List Int) (ar:List (List aF)),l.drop i=xs→par.length≤fr+i→ty.length≤fr+i→ar.length≤fr+i→
  DR (fr:Int) l (l.length:Int) (i:Int) TL FL par ty ar=some ((),par++ids (fr+i) xs.length,ty++xs.map (·.dN),ar++xs.map fun x=>KL fr x.cO):=by
 intro xs
 induction xs with
 |nil=>
  intro i par ty ar hd _ _ _;refine Tn _ _ _ _ _ _ _ _ _ ?_;rw [dm hd,cond_false];simp [ids]
 |cons x xs ih=>
  intro i par ty ar hd h1 h2 h3;have hx:=hl x (List.mem_of_getElem? (dG hd));have hlt:=gA hd;refine Tn _ _ _ _ _ _ _ _ _ ?_;rw [cR hd,cond_true,bX hd,cM _ (by omega) (by simp) (by omega),cM _ (by omega) (by simp) (by omega),iK (by omega) (by omega)];refine XZ (by omega) hx.1 hx.2 (by omega) x.cO 0 rfl ?_;rw [dA hd (by omega),ih (i+1) _ _ _ (cH hd) (by simp;omega) (by simp;omega) (by simp;omega),List.length_cons,SB];have e:(fr:Int)+(i:Int)=((fr+i:Nat):Int):=by omega
  rw [e];simp [Nat.add_assoc]
theorem Xx {l:List Node} {par ty:List Int} {ar:List (List aF)} {fr:Nat} (hp:par.length=fr) (ht:ty.length=fr) (ha:ar.length=fr) (hf:fr+l.length≤1000000) (hl:∀x∈l,x.cO.length≤1000000∧∀a∈x.cO,0≤a.To∧a.To≤1000000):
  f442 l TL FL par ty ar=some ((),par++ids fr l.length,ty++l.map (·.dN),ar++l.map fun x=>KL fr x.cO):=by
 refine e442 _ _ _ _ _ _ ?_;rw [hp];exact XY hf hl l 0 par ty ar rfl (by omega) (by omega) (by omega)
end
theorem JI.init {T n:Nat} {Q:List aF→Prop} {sb:Int→Int→Prop} {U:Gr} {par ty:List Int} {ar:List (List aF)} (hT:∀{a},0≤a→a<(T:Int)→sb a a) (hp:par=ids 0 n) (ht:ty.length=n) (ha:ar.length=n) (tr:∀x,x<n→0≤ty.getD x 0∧ty.getD x 0<(T:Int)) (ao:∀x,x<n→Q (ar.getD x []))
  (us:∀x,x<n→U.sc x=(ar.getD x []).map fun a=>(a.aP,a.To.toNat)) (ut:∀x,x<n→U.ty x=ty.getD x 0):JI T Q sb U n [] [] par ty ar id (fun _=>0):=by
 subst hp;refine ⟨⟨x5 _ _,fun x hx=>⟨x,hx,SA hx,rfl, .inl rfl⟩,fun x hx=>by rw [SA hx];simp,fun x hx=>hx,fun x _=>rfl⟩,ht,ha,tr,ao,(fun p hp=>by cases hp),fun x hx=> ?_,fun x hx p hp=> ?_,(fun p hp=>by cases hp),fun C m hC hs=>⟨fun x _=>rfl,fun x hx _=>⟨?_,fun a h=> ?_⟩,(fun p hp=>by cases hp)⟩⟩
 ·rw [ut x hx];exact hT (tr x hx).1 (tr x hx).2
 ·rw [us x hx] at hp
  obtain ⟨a,h,rfl⟩:=List.mem_map.1 hp;exact ⟨a,h,rfl, .zu rfl⟩
 ·rw [←ut x hx];exact hs.ty x hx
 ·exact hs.ar x hx (a.aP,a.To.toNat) (by rw [us x hx];exact List.mem_map.2 ⟨a,h,rfl⟩)
theorem Can.ao {T F:Nat} {f:FSt} (h:Can T F f) {x:Node} (hx:x∈f.aj):AO F (f.aj.length) x.cO:=by
 obtain ⟨i,hi⟩:=List.mem_iff_getElem?.1 hx;have hil:i<f.aj.length:=(List.getElem?_eq_some_iff.1 hi).1;have hxe:f.aj[i]=x:=(List.getElem?_eq_some_iff.1 hi).2;have e:iO f i=Rb x:=by rw [zY hil,hxe]
 refine ⟨?_,fun a ha=> ?_⟩
 ·have:=h.xG i
  rw [e] at this;unfold vc Rb at this;rw [List.pairwise_map] at this;exact this
 ·have hm:(a.aP,a.To.toNat)∈iO f i:=by rw [e];exact List.mem_map.2 ⟨a,ha,rfl⟩
  have h1:=h.go.ft i hil _ hm;have h2:=h.bd i hil _ hm;have h3:=h.nn hx ha;exact ⟨h1,h3,by simp only at h2;omega⟩
theorem Can.tyr {T F:Nat} {f:FSt} (h:Can T F f) {x:Node} (hx:x∈f.aj):0≤x.dN∧x.dN<(T:Int):=by
 obtain ⟨i,hi⟩:=List.mem_iff_getElem?.1 hx;have hil:i<f.aj.length:=(List.getElem?_eq_some_iff.1 hi).1;have hxe:f.aj[i]=x:=(List.getElem?_eq_some_iff.1 hi).2;have:=h.go.tp i hil;have e:(kD f).ty i=x.dN:=by show pq f i=_;rw [uX hil,hxe]
 rwa [e] at this
theorem AO.sh {F n k N:Nat} {l:List aF} (h:AO F n l) (hN:n+k≤N):AO F N (KL k l):=by
 refine ⟨?_,fun a ha=> ?_⟩
 ·unfold yV KL
  rw [List.pairwise_map];exact h.xG
 ·obtain ⟨b,hb,rfl⟩:=List.mem_map.1 ha
  have:=h.ok b hb;exact ⟨this.1,by show 0≤b.To+(k:Int);omega,by show b.To+(k:Int)<(N:Int);omega⟩
theorem W7 {F n k:Nat} {l:List aF} (h:AO F n l):((KL k l).map fun a=>(a.aP,a.To.toNat))=(l.map fun a=>(a.aP,a.To.toNat)).map fun p=>(p.1,p.2+k):=by
 unfold KL;rw [List.map_map,List.map_map];refine List.map_congr_left fun a ha=> ?_
 have:=(h.ok a ha).2;show (a.aP,(a.To+(k:Int)).toNat)=(a.aP,a.To.toNat+k)
 congr 1
 omega
theorem jB {α β:Type} {l:List α} {g:α→β} {i:Nat} {d:β} (h:i<l.length):(l.map g).getD i d=g l[i]:=by
 rw [List.getD_eq_getElem?_getD,List.getElem?_map,List.getElem?_eq_getElem h];rfl
theorem LU {α:Type} {l m:List α} {i:Nat} {d:α} (h:i<l.length):(l++m).getD i d=l.getD i d:=by
 rw [List.getD_eq_getElem?_getD,List.getD_eq_getElem?_getD,List.getElem?_append_left h]
theorem LV {α:Type} {l m:List α} {i:Nat} {d:α} (h:l.length≤i):(l++m).getD i d=m.getD (i-l.length) d:=by
 rw [List.getD_eq_getElem?_getD,List.getD_eq_getElem?_getD,List.getElem?_append_right h]
theorem Can.small {T F:Nat} {f:FSt} (h:Can T F f) (hn:f.aj.length≤1000000) (hF:F≤1000000):∀x∈f.aj,x.cO.length≤1000000∧∀a∈x.cO,0≤a.To∧a.To≤1000000:=fun x hx=>by
 have:=h.ao hx;exact ⟨Nat.le_trans this.len hF,fun a ha=>by have:=(this.ok a ha).2;omega⟩
end Go.Proofs.YthppjmoncapdfaaGreatDoor.cl.pf
set_option linter.unusedVariables false
set_option linter.unusedSimpArgs false
set_option linter.unusedSectionVars false
namespace Go.Proofs.YthppjmoncapdfaaGreatDoor.cl.pf
open Go Go.AM
def mO (x:aF):List aF→List aF
 |[]=>[x]
 |y::l=>if y.aP≤x.aP then y::mO x l else x::y::l
def BA (l:List aF):List aF:=l.foldl (fun o x=>mO x o) []
def FF (l:List aF):Prop:=l.Pairwise fun a b=>a.aP≤b.aP
theorem CO {x a:aF}:∀{l:List aF},a∈mO x l↔a=x∨a∈l
 |[]=>by simp [mO]
 |y::l=>by
  unfold mO;split
  ·rw [List.mem_cons,CO,List.mem_cons]
   constructor
   ·rintro (h|h|h)
    ·exact .inr (.inl h)
    ·exact .inl h
    ·exact .inr (.inr h)
   ·rintro (h|h|h)
    ·exact .inr (.inl h)
    ·exact .inl h
    ·exact .inr (.inr h)
  ·simp
theorem CN {x:aF}:∀{l:List aF},(mO x l).length=l.length+1
 |[]=>rfl
 |y::l=>by unfold mO;split<;>simp [CN]
theorem CP {x:aF}:∀{l:List aF},FF l→FF (mO x l)
 |[],_=>List.pairwise_singleton _ _
 |y::l,h=>by
  have h':=List.pairwise_cons.1 h;unfold mO;split
  ·rename_i hle
   refine List.pairwise_cons.2 ⟨fun a ha=> ?_,CP h'.2⟩;rcases CO.1 ha with rfl|ha
   ·exact hle
   ·exact h'.1 a ha
  ·rename_i hgt
   refine List.pairwise_cons.2 ⟨fun a ha=> ?_,h⟩;rcases List.mem_cons.1 ha with rfl|ha
   ·omega
   ·have:=h'.1 a ha;omega
theorem CM {x:aF} {w:List aF} (hw:∀a∈w,x.aP<a.aP):∀{u:List aF},(∀a∈u,a.aP≤x.aP)→mO x (u++w)=u++[x]++w
 |[],_=>by
  cases w with
  |nil=>rfl
  |cons y w=>
   show mO x (y::w)=_;unfold mO;rw [if_neg (by have:=hw y (by simp);omega)];rfl
 |y::u,hu=>by
  show mO x (y::(u++w))=_;unfold mO;rw [if_pos (hu y (by simp)),CM hw fun a ha=>hu a (by simp [ha])];rfl
theorem nJ:∀(l:List aF),FF (BA l)∧(BA l).length=l.length∧∀a,a∈BA l↔a∈l:=by
 intro l;unfold BA;have key:∀(l o:List aF),FF o→FF (l.foldl (fun o x=>mO x o) o)∧(l.foldl (fun o x=>mO x o) o).length=o.length+l.length∧∀a,a∈l.foldl (fun o x=>mO x o) o↔a∈o∨a∈l:=by
  intro l
  induction l with
  |nil=>intro o h;exact ⟨h,rfl,fun a=>by simp⟩
  |cons x l ih=>
   intro o h;obtain ⟨h1,h2,h3⟩:=ih (mO x o) (CP h);refine ⟨h1,by rw [List.foldl_cons,h2,CN,List.length_cons];omega,fun a=> ?_⟩;rw [List.foldl_cons,h3 a,CO,List.mem_cons];constructor
   ·rintro ((h|h)|h)
    ·exact .inr (.inl h)
    ·exact .inl h
    ·exact .inr (.inr h)
   ·rintro (h|h|h)
    ·exact .inl (.inr h)
    ·exact .inl (.inl h)
    ·exact .inr h
 have:=key l [] List.Pairwise.nil;exact ⟨this.1,by simpa using this.2.1,fun a=>by simpa using this.2.2 a⟩
theorem Y9 {l:List aF} (h:yV l):BA l=l:=by
 have key:∀(l o:List aF),yV (o++l)→l.foldl (fun o x=>mO x o) o=o++l:=by
  intro l
  induction l with
  |nil=>intro o _;simp
  |cons x l ih=>
   intro o h;have e:mO x o=o++[x]:=by
    have:=CM (x:=x) (w:=[]) (fun a ha=>by cases ha) (u:=o) (fun a ha=>by
     unfold yV at h;rw [List.pairwise_append] at h
     have:=h.2.2 a ha x (by simp);omega)
    simpa using this
   rw [List.foldl_cons,e,ih (o++[x]) (by simpa using h)];simp
 exact key l [] (by simpa using h)
theorem OS {l:List aF} (h:(l.map (·.aP)).Nodup):yV (BA l):=by
 obtain ⟨h1,_,h3⟩:=nJ l;have hp:((BA l).map (·.aP)).Nodup:=by
  unfold BA;have key:∀(l o:List aF),((o++l).map (·.aP)).Nodup→((l.foldl (fun o x=>mO x o) o).map (·.aP)).Nodup:=by
   intro l
   induction l with
   |nil=>intro o h;simpa using h
   |cons x l ih=>
    intro o h;rw [List.foldl_cons];refine ih _ ?_;have hins:∀o:List aF,((mO x o).map (·.aP)).Perm ((o++[x]).map (·.aP)):=by
     intro o
     induction o with
     |nil=>exact List.Perm.refl _
     |cons y o ih2=>
      unfold mO;split
      ·simp only [List.map_cons,List.cons_append];exact List.Perm.cons _ ih2
      ·simp only [List.map_cons,List.cons_append]
       have:((y::o)++[x]).map (fun a:aF=>a.aP)=(y::o).map (fun a:aF=>a.aP)++[x.aP]:=by simp
       simp only [List.map_cons,List.cons_append] at this;rw [this];exact (List.perm_append_singleton x.aP (y.aP::o.map fun a=>a.aP)).symm
    have:((o++x::l).map (·.aP))=(o++[x]).map (·.aP)++l.map (·.aP):=by simp
    rw [this] at h;rw [List.map_append];exact ((hins o).append_right _).nodup_iff.2 h
  exact key l [] (by simpa using h)
 unfold yV;unfold FF at h1;unfold List.Nodup at hp;rw [List.pairwise_map] at hp;exact (h1.and hp).imp fun {a b} h=>by have:=h.1;have:=h.2;omega
theorem X1 {l:List aF} {i:Nat} {x:aF} {res:List aF} (hx:l[i]? =some x) (hl:l.length≤1000000) {o:List aF} (ho:o.length≤1000000) (hs:FF o)
  (hr:tE l ((i+1:Nat):Int) (mO x o)=some res):∀(v:Nat),v≤o.length→(∀a∈o.drop v,x.aP<a.aP)→BH l (i:Int) (v:Int) o=some res:=by
 have hi:i<l.length:=(List.getElem?_eq_some_iff.1 hx).1;have fin:∀(v:Nat),v≤o.length→(∀a∈o.drop v,x.aP<a.aP)→(∀a∈o.take v,a.aP≤x.aP)→
   check (0≤(v:Int)∧(v:Int)≤((o.length:Nat):Int)) (
   check ((List.length ([]:List aF)+List.length ((o.take (Int.toNat (v:Int))).drop 0)) *16≤140737488355328∧List.length ([]:List aF)+List.length ((o.take (Int.toNat (v:Int))).drop 0)≤4611686018427387904) (
   bS l (i:Int) fun gX=>
   check ((List.length (([]:List aF)++((o.take (Int.toNat (v:Int))).drop 0))+List.length [gX]) *16≤140737488355328∧List.length (([]:List aF)++((o.take (Int.toNat (v:Int))).drop 0))+List.length [gX]≤4611686018427387904) (
   check (0≤(v:Int)∧(v:Int)≤((o.length:Nat):Int)) (
   check ((List.length ((([]:List aF)++((o.take (Int.toNat (v:Int))).drop 0))++[gX])+List.length ((o.take (List.length o)).drop (Int.toNat (v:Int)))) *16≤140737488355328∧List.length ((([]:List aF)++((o.take (Int.toNat (v:Int))).drop 0))++[gX])+List.length ((o.take (List.length o)).drop (Int.toNat (v:Int)))≤4611686018427387904) (
   tE l (IntKind.wrap .i64 ((i:Int)+1)) (((([]:List aF)++((o.take (Int.toNat (v:Int))).drop 0))++[gX])++((o.take (List.length o)).drop (Int.toNat (v:Int)))))))))=some res:=by
  intro v hv h1 h2;have e:(o.take v++[x])++o.drop v=mO x o:=by
   have:=CM (x:=x) h1 h2;rw [List.take_append_drop] at this;exact this.symm
  rw [bY ⟨by omega,by omega⟩,Int.toNat_natCast,List.drop_zero,cM _ (by simp) (by rw [List.length_take];omega) (by omega),eo hx,List.nil_append,cM _ (by rw [List.length_take];omega) (by simp) (by omega),bY ⟨by omega,by omega⟩,List.take_length,cM _ (by simp;omega) (by simp;omega) (by omega),e,cU (by omega)];exact hr
 intro v
 induction v with
 |zero=>
  intro hv h1;refine Ou _ _ _ _ ?_;rw [cond_neg (by rfl)];exact fin 0 hv h1 (fun a ha=>by cases ha)
 |succ v ih=>
  intro hv h1;refine Ou _ _ _ _ ?_;have hvl:v<o.length:=hv;rw [cond_pos (by rw [decide_eq_true_iff];omega),Fv (by omega),xM hvl,Int.toNat_natCast,Vl hvl,eo hx];by_cases hc:x.aP<o[v].aP
  ·rw [cond_pos (by rw [decide_eq_true_iff];exact hc)]
   refine ih (by omega) fun a ha=> ?_
   rw [List.drop_eq_getElem_cons hvl] at ha;rcases List.mem_cons.1 ha with rfl|ha
   ·exact hc
   ·exact h1 a ha
  ·rw [cond_neg (by rw [decide_eq_false_iff_not];exact hc)]
   refine fin (v+1) hv h1 fun a ha=> ?_
   rw [List.take_add_one,List.getElem?_eq_getElem hvl] at ha;unfold FF at hs;rcases List.mem_append.1 ha with ha|ha
   ·obtain ⟨j,hj⟩:=List.mem_iff_getElem?.1 ha
    rw [List.getElem?_take] at hj;split at hj
    ·rename_i hjv
     have hjl:j<o.length:=by omega
     rw [List.getElem?_eq_getElem hjl] at hj;cases hj;have:=List.pairwise_iff_getElem.1 hs j v hjl hvl hjv;omega
    ·cases hj
   ·simp at ha;subst ha;omega
theorem h463 {l:List aF} (hl:l.length≤1000000):∀(xs:List aF) (i:Nat) (o:List aF),l.drop i=xs→FF o→o.length≤i→tE l (i:Int) o=some (xs.foldl (fun o x=>mO x o) o):=by
 intro xs
 induction xs with
 |nil=>
  intro i o hd _ _;refine Ot _ _ _ ?_;rw [dm hd,cond_false];rfl
 |cons x xs ih=>
  intro i o hd hs ho;have hlt:=gA hd;refine Ot _ _ _ ?_;rw [cR hd,cond_true];refine X1 (dG hd) hl (by omega) hs ?_ o.length (Nat.le_refl _) (fun a ha=>by rw [List.drop_length] at ha;cases ha);exact ih (i+1) (mO x o) (cH hd) (CP hs) (by rw [CN];omega)
theorem ZQ {l:List aF} (hl:l.length≤1000000):f463 l=some (BA l):=e463 _ (h463 hl l 0 [] rfl List.Pairwise.nil (Nat.le_refl _))
def A4 (f:FSt) (n:Nat):List (Int×Nat):=match f.aj[n]? with
 |some x=>(BA x.cO).map fun a=>(a.aP,a.To.toNat)
 |none=>[]
def yT (f:FSt):Gr:=⟨A4 f,pq f⟩
def K1 (f:FSt):Prop:=∀x∈f.aj,x.cO.length≤1000000∧∀a∈x.cO,0≤a.To∧a.To<(f.aj.length:Int)
theorem uT {f:FSt} {n:Nat} (h:n<f.aj.length):A4 f n=(BA f.aj[n].cO).map fun a=>(a.aP,a.To.toNat):=by
 unfold A4;rw [List.getElem?_eq_getElem h]
theorem HE {f:FSt} (h:K1 f):Bd (yT f).sc f.aj.length:=fun n hn p hp=>by
 have hp:p∈A4 f n:=hp;rw [uT hn] at hp;obtain ⟨a,ha,rfl⟩:=List.mem_map.1 hp;have:=(h _ (List.getElem_mem hn)).2 a ((nJ _).2.2 a|>.1 ha);show a.To.toNat<_;omega
def tq (o:List Nat):List Int:=o.map fun (x:Nat)=>(x:Int)
section
variable {f:FSt} (hf:K1 f) (hn:f.aj.length≤1000000)
include hf hn
theorem X0 {k:Nat} (ih:∀(x:Nat) (o:List Nat) (num:List Int),x<f.aj.length→x∉o→NO f.aj.length num o→Met f.aj.length o→f.aj.length<k+o.length→
   ∃num',f455 (x:Int) f.aj num (tq o)=some ((),num',tq (lg (A4 f) k x o))∧NO f.aj.length num' (lg (A4 f) k x o)) {Ll:List aF} (has:Ll.length≤1000000) (hto:∀a∈Ll,0≤a.To∧a.To<(f.aj.length:Int)):
  ∀(xs:List aF) (i:Nat) (o:List Nat) (num:List Int),Ll.drop i=xs→NO f.aj.length num o→Met f.aj.length o→f.aj.length<k+o.length→
   ∃num',DV Ll (i:Int) f.aj num (tq o)=some ((),num',tq (oz (A4 f) k (xs.map fun a=>(a.aP,a.To.toNat)) o))∧NO f.aj.length num' (oz (A4 f) k (xs.map fun a=>(a.aP,a.To.toNat)) o):=by
 intro xs
 induction xs with
 |nil=>
  intro i o num hd hN _ _;refine ⟨num,Mh _ _ _ _ _ ?_,hN⟩;rw [dm hd,cond_false];rfl
 |cons a xs ih2=>
  intro i o num hd hN hM hk;have ha:=hto a (List.mem_of_getElem? (dG hd));obtain ⟨x,hx⟩:=Int.eq_ofNat_of_zero_le ha.1;have Sw:x<f.aj.length:=by omega
  have Zq:a.To.toNat=x:=by omega
  have hlt:=gA hd;have hnl:x<num.length:=by rw [hN.len];exact Sw
  simp only [List.map_cons,oz,List.foldl_cons,Zq];by_cases hm:x∈o
  ·have ev:lg (A4 f) k x o=o:=by
    cases k with
    |zero=>rfl
    |succ k=>rw [lg,if_pos hm]
   rw [ev];obtain ⟨num',g1,g2⟩:=ih2 (i+1) o num (cH hd) hN hM hk;refine ⟨num',Mh _ _ _ _ _ ?_,g2⟩;rw [cR hd,cond_true,bX hd,hx,By hnl,hN.at_ x Sw,if_pos hm,cond_neg (by rw [decide_eq_false_iff_not];omega),dA hd (by omega)];exact g1
  ·obtain ⟨num1,f1,N1⟩:=ih x o num Sw hm hN hM hk
   have hM2:=vq (HE hf) k x o hM Sw;have hlen:=IC (sc:=A4 f) k x o;obtain ⟨num',g1,g2⟩:=ih2 (i+1) _ num1 (cH hd) N1 hM2 (by omega);refine ⟨num',Mh _ _ _ _ _ ?_,g2⟩;rw [cR hd,cond_true,bX hd,hx,By hnl,hN.at_ x Sw,if_neg hm,cond_pos (by rfl),bX hd,hx,f1,Ca,dA hd (by omega)];exact g1
theorem h455:∀(k x:Nat) (o:List Nat) (num:List Int),x<f.aj.length→x∉o→NO f.aj.length num o→Met f.aj.length o→f.aj.length<k+o.length→
  ∃num',f455 (x:Int) f.aj num (tq o)=some ((),num',tq (lg (A4 f) k x o))∧NO f.aj.length num' (lg (A4 f) k x o):=by
 intro k
 induction k with
 |zero=>intro x o num _ _ _ hM hk;have:=tQ hM.nd hM.lt;omega
 |succ k ih=>
  intro x o num hx AB hN hM hk;have hnl:x<num.length:=by rw [hN.len];exact hx
  have hol:=tQ hM.nd hM.lt;obtain ⟨hal,hto⟩:=hf _ (List.getElem_mem hx);obtain ⟨s1,s2,s3⟩:=nJ f.aj[x].cO;obtain ⟨num',g1,g2⟩:=X0 hf hn ih (Ll:=BA f.aj[x].cO) (by rw [s2];exact hal) (fun a ha=>hto a ((s3 a).1 ha)) (BA f.aj[x].cO) 0 (o++[x]) (num.set x (o.length:Int)) rfl (hN.snoc hx AB) (hM.snoc hx AB) (by simp only [List.length_append,List.length_singleton];omega);have ev:lg (A4 f) (k+1) x o=oz (A4 f) k ((BA f.aj[x].cO).map fun a=>(a.aP,a.To.toNat)) (o++[x]):=by rw [lg,if_neg AB,uT hx]
  rw [ev];refine ⟨num',e455 _ _ _ _ ?_,g2⟩;rw [By hnl,cM _ (by unfold tq;rw [List.length_map];omega) (by simp) (by omega),ek hx,ZQ hal,aH,Int.toNat_natCast];have e:tq o++[(x:Int)]=tq (o++[x]):=by simp [tq]
  have e2:((tq o).length:Int)=(o.length:Int):=by simp [tq]
  rw [e,e2];exact g1
theorem Vn {i:Nat} {o2 o4:FSt} {x:Node} {nd VS iT:List Node} {num ordr:List Int} {o:List Nat} (hN:NO f.aj.length num o) (h52:VS.length≤1000000) {res:FSt}:∀(xs done:List aF),done.length+xs.length≤1000000→(∀a∈xs,0≤a.To∧a.To<(f.aj.length:Int)∧a.To.toNat∈o)→
  z7 (IntKind.wrap .i64 ((i:Int)+1)) o2 o4 nd (VS++[⟨x.dN,done++xs.map fun a=>⟨a.aP,(o.idxOf a.To.toNat:Nat)⟩⟩]) iT num ordr=some res→
  yK (i:Int) (done.length:Int) o2 o4 x nd (done++xs) VS iT num ordr=some res:=by
 intro xs
 induction xs with
 |nil=>
  intro done hl _ hr;refine JX _ _ _ _ _ _ _ _ _ _ _ ?_;rw [cond_neg (by rw [decide_eq_false_iff_not];simp),cM _ (by omega) (by simp) (by omega),List.append_nil];rw [List.map_nil,List.append_nil] at hr;exact hr
 |cons a xs ih=>
  intro done hl hto hr;simp only [List.length_cons] at hl;obtain ⟨h1,h2,h3⟩:=hto a (by simp);obtain ⟨y,hy⟩:=Int.eq_ofNat_of_zero_le h1;have hyn:y<f.aj.length:=by omega
  have hyt:a.To.toNat=y:=by omega
  rw [hyt] at h3;have hg:∀{R:Type} (k:aF→Option R),ec (done++a::xs) done.length k=k a:=fun k=>gq (by simp) k
  refine JX _ _ _ _ _ _ _ _ _ _ _ ?_;rw [cond_pos (by rw [decide_eq_true_iff];simp;omega),xM (by simp),Int.toNat_natCast,hg,hy,By (by rw [hN.len];exact hyn),hN.at_ y hyn,if_pos h3,bY ⟨by omega,by simp⟩,hg,cU (by omega),List.set_append_right _ _ (Nat.le_refl _),Nat.sub_self,List.set_cons_zero]
  have:=ih (done++[⟨a.aP,(o.idxOf y:Nat)⟩]) (by simp;omega) (fun b hb=>hto b (by simp [hb])) (by
   rw [List.map_cons,hyt] at hr
   rw [List.append_assoc];exact hr)
  rw [List.length_append,List.length_singleton,List.append_assoc] at this;exact this
theorem XX {o4:FSt} {nd iT:List Node} {num:List Int} {o:List Nat} (hN:NO f.aj.length num o) (hM:Met f.aj.length o) (Bg:∀y∈o,∀p∈A4 f y,p.2∈o):
  ∀(xs:List Nat) (i:Nat) (VS:List Node),o.drop i=xs→VS.length≤i→z7 (i:Int) f o4 nd VS iT num (tq o)=some ⟨VS++xs.map (Gx (yT f) o)⟩:=by
 have hol:=tQ hM.nd hM.lt;intro xs
 induction xs with
 |nil=>
  intro i VS hd _;refine Tm _ _ _ _ _ _ _ _ ?_;have hge:=nw hd;rw [cond_neg (by rw [decide_eq_false_iff_not];simp [tq];omega)];simp
 |cons y xs ih=>
  intro i VS hd h52;have hlt:=gA hd;have hym:y∈o:=List.mem_of_getElem? (dG hd);have hy:=hM.lt y hym;obtain ⟨hal,hto⟩:=hf _ (List.getElem_mem hy);obtain ⟨s1,s2,s3⟩:=nJ f.aj[y].cO;have hil:i<(tq o).length:=by simp [tq];exact hlt
  have hgd:(tq o).getD i 0=(y:Int):=by
   unfold tq;rw [jB hlt];have:=dG hd;rw [List.getElem?_eq_getElem hlt] at this;rw [Option.some.inj this]
  refine Tm _ _ _ _ _ _ _ _ ?_;rw [cond_pos (by rw [decide_eq_true_iff];omega),By hil,hgd,ek hy,ZQ hal,aH];have e0:((([]:List aF).length:Nat):Int)=0:=rfl;refine Vn hf hn hN (by omega) (BA f.aj[y].cO) [] (by simp;omega) (fun a ha=> ?_) ?_
  ·have h1:=hto a ((s3 a).1 ha)
   refine ⟨h1.1,h1.2,Bg y hym (a.aP,a.To.toNat) ?_⟩;rw [uT hy];exact List.mem_map.2 ⟨a,ha,rfl⟩
  ·rw [dA hd (by omega),ih (i+1) _ (cH hd) (by simp;omega)]
   have e:Gx (yT f) o y=⟨f.aj[y].dN,[]++(BA f.aj[y].cO).map fun a=>⟨a.aP,(o.idxOf a.To.toNat:Nat)⟩⟩:=by
    show (⟨pq f y,(A4 f y).map _⟩:Node)=_;rw [uX hy,uT hy,List.map_map];rfl
   rw [List.map_cons,e,List.append_assoc];rfl
theorem XW {root:Nat} {o4:FSt} {nd iT:List Node} {res:FSt} (hr:(I4 (f455 (root:Int) nd (List.replicate f.aj.length (-1)) []) fun b9 w6 sw=>z7 0 f o4 nd ([]:List Node) iT w6 sw)=some res):
  ∀(k i:Nat),f.aj.length=i+k→Iq (root:Int) (i:Int) f o4 nd iT (List.replicate i (-1)) []=some res:=by
 intro k
 induction k with
 |zero=>
  intro i hi;refine Tl _ _ _ _ _ _ _ _ ?_;have e:i=f.aj.length:=by omega
  subst e;rw [cond_neg (by rw [decide_eq_false_iff_not];omega)];exact hr
 |succ k ih=>
  intro i hi;refine Tl _ _ _ _ _ _ _ _ ?_;rw [cond_pos (by rw [decide_eq_true_iff];omega),cM _ (by simp;omega) (by simp) (by omega),cU (by omega),←List.replicate_succ'];exact ih (i+1) (by omega)
theorem c436 {root:Nat} (hr:root<f.aj.length):f436 f (root:Int)=some (iz (yT f) f.aj.length root):=by
 have hN:NO f.aj.length (List.replicate f.aj.length (-1)) []:=⟨by simp,fun x hx=>by
  rw [if_neg (by simp),List.getD_eq_getElem?_getD,List.getElem?_replicate,if_pos hx];rfl⟩
 obtain ⟨num',f1,N1⟩:=h455 hf hn (f.aj.length+1) root [] _ hr (by simp) hN Met.nil (by simp);have hB:=HE hf;refine e436 _ _ ?_;refine XW hf hn ?_ f.aj.length 0 (by omega);have:tq ([]:List Nat)=[]:=rfl;rw [this] at f1;rw [f1,Ca];have g:=XX hf hn (o4:=⟨[]⟩) (nd:=f.aj) (iT:=[]) N1 (qT (G:=yT f) hB hr) (fun y hy p hp=>uE (G:=yT f) hB hr hy hp) _ 0 [] rfl (Nat.le_refl _);exact g
end
end Go.Proofs.YthppjmoncapdfaaGreatDoor.cl.pf
set_option linter.unusedVariables false
set_option linter.unusedSimpArgs false
set_option linter.unusedSectionVars false
namespace Go.Proofs.YthppjmoncapdfaaGreatDoor.cl.pf
open Go Go.AM
def V8 (k:Nat) (x:Node):Node:=⟨x.dN,KL k x.cO⟩
structure AW (F n:Nat) (l:List aF):Prop where
 nd:(l.map (·.aP)).Nodup
 ok:∀a∈l,(0≤a.aP∧a.aP<(F:Int))∧0≤a.To∧a.To<(n:Int)
theorem yV.nd {l:List aF} (h:yV l):(l.map (·.aP)).Nodup:=by
 unfold List.Nodup;rw [List.pairwise_map];exact h.imp fun h=>by omega
theorem AW.BA {F n:Nat} {l:List aF} (h:AW F n l):AO F n (BA l):=⟨OS h.nd,fun a ha=>h.ok a ((nJ l).2.2 a|>.1 ha)⟩
theorem AW.len {F n:Nat} {l:List aF} (h:AW F n l):l.length≤F:=by
 have:=h.BA.len
 rwa [(nJ l).2.1] at this
def fa (l:List aF) (f:Int):Option aF:=l.find? fun a=>a.aP==f
theorem N3 {l:List aF} {f:Int} {a:aF} (h:fa l f=some a):a∈l∧a.aP=f:=by
 have h1:=List.mem_of_find?_eq_some h;have h2:=List.find?_some h;exact ⟨h1,by simpa using h2⟩
theorem Vi {l:List aF} {f:Int} (h:fa l f=none):∀a∈l,a.aP≠f:=fun a ha e=>by
 have:=List.find?_eq_none.1 h a ha;simp [e] at this
def lG (l:List Node):Gr:=⟨fun x=>((l.map (·.cO)).getD x []).map fun a=>(a.aP,a.To.toNat),fun x=>(l.map (·.dN)).getD x 0⟩
end Go.Proofs.YthppjmoncapdfaaGreatDoor.cl.pf
set_option linter.unusedVariables false
set_option linter.unusedSimpArgs false
set_option linter.unusedSectionVars false
namespace Go.Proofs.YthppjmoncapdfaaGreatDoor.cl.pf
open Go Go.AM
section
variable {h:bq} {T:Nat} {sb:Int→Int→Prop} (H:HM h T sb) {l:List Node} (hn:l.length≤1000000) (htl:∀x∈l,0≤x.dN∧x.dN<(T:Int)) (hT0:0<T)
variable {cl:List Int} {rep:Nat→Nat} (Bg:cl.length=l.length) (hc:∀x,x<l.length→cl.getD x 0=(rep x:Nat)) (rl:∀x,x<l.length→rep x<l.length) (rr:∀x,x<l.length→rep (rep x)=rep x)
theorem lG_ty {x:Nat} (hx:x<l.length):(lG l).ty x=l[x].dN:=jB hx
theorem Ov {x:Nat} (hx:x<l.length):(lG l).sc x=l[x].cO.map fun a=>(a.aP,a.To.toNat):=by
 show List.map _ (List.getD _ _ _)=_;rw [jB hx]
include H hn htl Bg hc rl rr
end
section
variable {l:List Node} {F:Nat} (hn:l.length≤1000000) (hF:F≤1000000) (hA:∀x∈l,AW F l.length x.cO)
variable {cl:List Int} {rep:Nat→Nat} (Bg:cl.length=l.length) (hc:∀x,x<l.length→cl.getD x 0=(rep x:Nat)) (rl:∀x,x<l.length→rep x<l.length)
theorem BZ {kT:Node→List aF→Node}:∀(xs:List Node) (ys:List (List aF)),xs.length=ys.length→vC kT xs (ys.map some)=some (List.zipWith kT xs ys)
 |[],[],_=>rfl
 |x::xs,y::ys,h=>by
  have:=BZ (kT:=kT) xs ys (by simpa using h);simp only [List.map_cons,vC,this,Option.map_some,List.zipWith_cons_cons]
 |[],y::ys,h=>by simp at h
 |x::xs,[],h=>by simp at h
theorem O4 {R:Type} {kT:Node→List aF→Node} {xs:List Node} {ys:List (List aF)} (h:xs.length=ys.length) (k:List Node→Option R):O3 kT xs (ys.map some) k=k (List.zipWith kT xs ys):=by
 unfold O3;rw [BZ xs ys h]
theorem Fg {R:Type} {ys:List (List aF)} {i:Nat} (h:i<ys.length) (k:List aF→List (Option (List aF))→Option R):M3 (ys.map some) i k=k (ys.getD i []) ((ys.map some).set i none):=by
 unfold M3;rw [List.getElem?_map,List.getElem?_eq_getElem h,List.getD_eq_getElem?_getD,List.getElem?_eq_getElem h];rfl
abbrev updA:Node→List aF→Node:=fun x z=>{ x with cO:=z }
include hn hF hA Bg hc rl
end
end Go.Proofs.YthppjmoncapdfaaGreatDoor.cl.pf
set_option linter.unusedVariables false
set_option linter.unusedSimpArgs false
set_option linter.unusedSectionVars false
namespace Go.Proofs.YthppjmoncapdfaaGreatDoor.cl.pf
open Go Go.AM
theorem PN {N k:Nat} (h:k<N):(List.range N).idxOf k=k:=rO List.nodup_range (List.getElem?_range h)
theorem Ck {T F:Nat} {g:FSt} (h0:0<g.aj.length) (hg:GO T F (kD g) g.aj.length) (hn:∀x∈g.aj,∀a∈x.cO,0≤a.To) (ho:gj (kD g) g.aj.length 0=List.range g.aj.length):Can T F g:=by
 refine ⟨h0,hg,?_⟩;obtain ⟨l⟩:=g;unfold iz;rw [ho]
 congr 1
 apply List.ext_getElem?;intro i;rw [List.getElem?_map];by_cases hi:i<l.length
 ·rw [List.getElem?_range hi,List.getElem?_eq_getElem hi]
  show some l[i]=some _
  congr 1
  have e1:pq ⟨l⟩ i=l[i].dN:=uX hi;have e2:iO ⟨l⟩ i=Rb l[i]:=zY hi;show l[i]=(⟨pq ⟨l⟩ i,(iO ⟨l⟩ i).map _⟩:Node)
  rw [e1,e2];unfold Rb;rw [List.map_map];have:l[i].cO=l[i].cO.map ((fun p:Int×Nat=>(⟨p.1,((List.range l.length).idxOf p.2:Nat)⟩:aF))∘fun a=>(a.aP,a.To.toNat)):=by
   conv=>lhs;rw [←List.map_id l[i].cO]
   refine List.map_congr_left fun a ha=> ?_
   have h1:=hn _ (List.getElem_mem hi) a ha;have h2:a.To.toNat<l.length:=hg.bd i hi (a.aP,a.To.toNat) (by show _∈iO _ _;rw [e2];exact List.mem_map.2 ⟨a,ha,rfl⟩);show a=⟨a.aP,(((List.range l.length).idxOf a.To.toNat:Nat):Int)⟩
   rw [PN h2];obtain ⟨x,y⟩:=a;simp only at h1⊢
   congr 1
   omega
  exact congrArg (Node.mk _) this
 ·rw [List.getElem?_eq_none (by simpa using hi),List.getElem?_eq_none (by simpa using hi)];rfl
def Fo (f:FSt) (tl:List Int):FSt:=⟨List.zipWith (fun x t=>⟨t,x.cO⟩) f.aj tl⟩
section
variable {f:FSt} {tl:List Int} (hl:tl.length=f.aj.length)
include hl
theorem yD:(Fo f tl).aj.length=f.aj.length:=by show (List.zipWith _ _ _).length=_;rw [List.length_zipWith];omega
theorem HA {i:Nat} (hi:i<f.aj.length):(Fo f tl).aj[i]? =some ⟨tl.getD i 0,f.aj[i].cO⟩:=by
 show (List.zipWith _ _ _)[i]? =_;rw [List.getElem?_zipWith,List.getElem?_eq_getElem hi,List.getElem?_eq_getElem (by omega:i<tl.length),List.getD_eq_getElem?_getD,List.getElem?_eq_getElem (by omega:i<tl.length)];rfl
theorem HB:iO (Fo f tl)=iO f:=by
 funext i
 by_cases hi:i<f.aj.length
 ·unfold iO;rw [HA hl hi,List.getElem?_eq_getElem hi];rfl
 ·rw [Bz (f:=Fo f tl) (n:=i) (by rw [yD hl];omega),Bz (f:=f) (n:=i) (by omega)]
theorem Nd {i:Nat} (hi:i<f.aj.length):pq (Fo f tl) i=tl.getD i 0:=by
 unfold pq;rw [HA hl hi]
theorem Can.Fo {T F:Nat} (h:Can T F f) {T':Nat} (ht:∀i,i<f.aj.length→0≤tl.getD i 0∧tl.getD i 0<(T':Int)):Can T' F (Fo f tl):=by
 have hN:=yD hl;have hs:=HB hl;refine Ck (by rw [hN];exact h.ne) ?_ ?_ ?_
 ·rw [hN]
  refine ⟨?_,?_,?_,fun i hi=> ?_⟩
  ·show Bd (iO _) _;rw [hs];exact h.go.bd
  ·show∀n,n<_→vc (iO _ n);rw [hs];exact h.go.xG
  ·show∀n,n<_→∀p∈iO _ n,_;rw [hs];exact h.go.ft
  ·show 0≤pq _ i∧pq _ i<_;rw [Nd hl hi];exact ht i hi
 ·intro x hx a ha
  obtain ⟨i,hi⟩:=List.mem_iff_getElem?.1 hx;have hil:i<f.aj.length:=by have:=(List.getElem?_eq_some_iff.1 hi).1;rwa [hN] at this
  rw [HA hl hil] at hi;cases hi;exact h.nn (List.getElem_mem hil) ha
 ·rw [hN]
  have:gj (kD (cl.pf.Fo f tl)) f.aj.length 0=gj (kD f) f.aj.length 0:=by
   show lg (iO _) _ _ _=lg (iO f) _ _ _;rw [hs]
  rw [this,h.ord]
end
end Go.Proofs.YthppjmoncapdfaaGreatDoor.cl.pf
