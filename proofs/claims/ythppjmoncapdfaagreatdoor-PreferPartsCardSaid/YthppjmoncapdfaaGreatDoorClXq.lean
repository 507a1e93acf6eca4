/- Canon; the same value at two paths (the reference's sharing). -/
import Derived.Test.YthppjmoncapdfaaGreatDoorClXn
set_option linter.unusedVariables false
set_option linter.unusedSimpArgs false
set_option linter.unusedSectionVars false
namespace Go.Proofs.YthppjmoncapdfaaGreatDoor.cl.pf
open Go Go.AM
def IS (l:List aF) (n:Int):Prop:=(∀a∈l,0≤a.aP∧0≤a.To∧a.To<n)∧(l.map (·.aP)).Nodup
theorem c454 {l:List aF} {n:Int} (hl:l.length≤1000000):∃e,f454 l n=some e∧(e=0↔IS l n):=by
 have key:∀(k i:Nat),l.length=i+k→((∀a∈l.take i,0≤a.aP∧0≤a.To∧a.To<n)∧((l.take i).map (·.aP)).Nodup)→∃e,DT l n (i:Int)=some e∧(e=0↔IS l n):=by
  intro k
  induction k with
  |zero=>
   intro i hi hp;have e:i=l.length:=by omega
   subst e;rw [List.take_length] at hp;refine ⟨0,CS _ _ _ ?_,⟨fun _=>hp,fun _=>rfl⟩⟩;rw [cond_neg (by rw [decide_eq_false_iff_not];omega)]
  |succ k ih=>
   intro i hi hp;have hil:i<l.length:=by omega
   have hm:=List.getElem_mem hil;by_cases h1:l[i].aP<0
   ·refine ⟨2,CS _ _ _ ?_,⟨fun e=>by omega,fun h=>by have:=h.1 _ hm;omega⟩⟩
    rw [cond_pos (by rw [decide_eq_true_iff];omega),ek hil,cond_pos (by rw [decide_eq_true_iff];exact h1)]
   by_cases h2:l[i].To<0
   ·refine ⟨2,CS _ _ _ ?_,⟨fun e=>by omega,fun h=>by have:=h.1 _ hm;omega⟩⟩
    rw [cond_pos (by rw [decide_eq_true_iff];omega),ek hil,cond_neg (by rw [decide_eq_false_iff_not];exact h1),ek hil,cond_pos (by rw [decide_eq_true_iff];exact h2)]
   by_cases h3:l[i].To≥n
   ·refine ⟨2,CS _ _ _ ?_,⟨fun e=>by omega,fun h=>by have:=h.1 _ hm;omega⟩⟩
    rw [cond_pos (by rw [decide_eq_true_iff];omega),ek hil,cond_neg (by rw [decide_eq_false_iff_not];exact h1),ek hil,cond_neg (by rw [decide_eq_false_iff_not];exact h2),ek hil,cond_pos (by rw [decide_eq_true_iff];exact h3)]
   have step:∀r,DU l n (i:Int) 0=some r→DT l n (i:Int)=some r:=fun r hr=>by
    refine CS _ _ _ ?_;rw [cond_pos (by rw [decide_eq_true_iff];omega),ek hil,cond_neg (by rw [decide_eq_false_iff_not];exact h1),ek hil,cond_neg (by rw [decide_eq_false_iff_not];exact h2),ek hil,cond_neg (by rw [decide_eq_false_iff_not];exact h3)];exact hr
   have inner:∀(d k2:Nat),i=k2+d→(∀j,(hj:j<l.length)→j<k2→l[j].aP≠l[i].aP)→∃e,DU l n (i:Int) (k2:Int)=some e∧(e=0↔IS l n):=by
    intro d
    induction d with
    |zero=>
     intro k2 hk2 hno;have e:k2=i:=by omega
     subst e
     obtain ⟨e,g1,g2⟩:=ih (k2+1) (by omega) (by
      rw [List.take_add_one,List.getElem?_eq_getElem hil];refine ⟨fun a ha=> ?_,?_⟩
      ·rcases List.mem_append.1 ha with ha|ha
       ·exact hp.1 a ha
       ·simp at ha;subst ha;exact ⟨by omega,by omega,by omega⟩
      ·rw [List.map_append,List.nodup_append]
       refine ⟨hp.2,by simp,fun x hx y hy=> ?_⟩;simp at hy;subst hy;obtain ⟨a,ha,rfl⟩:=List.mem_map.1 hx;obtain ⟨j,hj⟩:=List.mem_iff_getElem?.1 ha;rw [List.getElem?_take] at hj;split at hj
       ·rename_i hjk
        have hjl:j<l.length:=by omega
        rw [List.getElem?_eq_getElem hjl] at hj;cases hj;exact hno j hjl hjk
       ·cases hj)
     refine ⟨e,Mg _ _ _ _ ?_,g2⟩;rw [cond_neg (by rw [decide_eq_false_iff_not];omega),cU (by omega)];exact g1
    |succ d ihd=>
     intro k2 hk2 hno;have Yg:k2<l.length:=by omega
     by_cases e:l[k2].aP=l[i].aP
     ·refine ⟨4,Mg _ _ _ _ ?_,⟨fun e=>by omega,fun h=> ?_⟩⟩
      ·rw [cond_pos (by rw [decide_eq_true_iff];omega),ek Yg,ek hil,cond_pos (by simpa using e)]
      ·have:=h.2
       unfold List.Nodup at this;rw [List.pairwise_map] at this;exact absurd e (List.pairwise_iff_getElem.1 this k2 i Yg hil (by omega))
     ·obtain ⟨r,g1,g2⟩:=ihd (k2+1) (by omega) (fun j hj hlt=>by
       by_cases e2:j=k2
       ·subst e2;exact e
       ·exact hno j hj (by omega))
      refine ⟨r,Mg _ _ _ _ ?_,g2⟩;rw [cond_pos (by rw [decide_eq_true_iff];omega),ek Yg,ek hil,cond_neg (by simpa using e),cU (by omega)];exact g1
   obtain ⟨e,g1,g2⟩:=inner i 0 (by omega) (fun j hj hlt=>absurd hlt (by omega));exact ⟨e,step e g1,g2⟩
 obtain ⟨e,g1,g2⟩:=key l.length 0 (by omega) ⟨fun a ha=>by (cases ha),by simp⟩;exact ⟨e,e454 _ _ g1,g2⟩
def uc (f:FSt):Prop:=0<f.aj.length∧f.aj.length≤4096∧∀x∈f.aj,0≤x.dN∧IS x.cO f.aj.length
theorem c435 {f:FSt} (hs:∀x∈f.aj,x.cO.length≤1000000):∃e,f435 f=some e∧(e=0↔uc f):=by
 by_cases h0:f.aj.length=0
 ·refine ⟨1,e435 _ ?_,⟨fun e=>by omega,fun h=>by have:=h.1;omega⟩⟩
  rw [cond_pos (by rw [beq_iff_eq];omega)]
 by_cases h1:f.aj.length>4096
 ·refine ⟨7,e435 _ ?_,⟨fun e=>by omega,fun h=>by have:=h.2.1;omega⟩⟩
  rw [cond_neg (by rw [beq_eq_false_iff_ne];omega),cond_pos (by rw [decide_eq_true_iff];omega)]
 have key:∀(k i:Nat),f.aj.length=i+k→(∀x∈f.aj.take i,0≤x.dN∧IS x.cO f.aj.length)→∃e,Ip (i:Int) f=some e∧(e=0↔uc f):=by
  intro k
  induction k with
  |zero=>
   intro i hi hp;have e:i=f.aj.length:=by omega
   subst e;rw [List.take_length] at hp;refine ⟨0,Gl _ _ ?_,⟨fun _=>⟨by omega,by omega,hp⟩,fun _=>rfl⟩⟩;rw [cond_neg (by rw [decide_eq_false_iff_not];omega)]
  |succ k ih=>
   intro i hi hp;have hil:i<f.aj.length:=by omega
   have hm:=List.getElem_mem hil;by_cases ht:f.aj[i].dN<0
   ·refine ⟨2,Gl _ _ ?_,⟨fun e=>by omega,fun h=>by have:=(h.2.2 _ hm).1;omega⟩⟩
    rw [cond_pos (by rw [decide_eq_true_iff];omega),ek hil,cond_pos (by rw [decide_eq_true_iff];exact ht)]
   ·obtain ⟨e,g1,g2⟩:=c454 (n:=(f.aj.length:Int)) (hs _ hm)
    by_cases he:e=0
    ·obtain ⟨r,q1,q2⟩:=ih (i+1) (by omega) (fun x hx=>by
      rw [List.take_add_one,List.getElem?_eq_getElem hil] at hx;rcases List.mem_append.1 hx with hx|hx
      ·exact hp x hx
      ·simp at hx;subst hx;exact ⟨by omega,g2.1 he⟩)
     refine ⟨r,Gl _ _ ?_,q2⟩;rw [cond_pos (by rw [decide_eq_true_iff];omega),ek hil,cond_neg (by rw [decide_eq_false_iff_not];exact ht),ek hil,g1,aH,cond_neg (by rw [bne_eq_false_iff_eq];exact he),cU (by omega)];exact q1
    ·refine ⟨e,Gl _ _ ?_,⟨fun h=>absurd h he,fun h=>absurd (g2.2 (h.2.2 _ hm).2) he⟩⟩
     rw [cond_pos (by rw [decide_eq_true_iff];omega),ek hil,cond_neg (by rw [decide_eq_false_iff_not];exact ht),ek hil,g1,aH,cond_pos (by rw [bne_iff_ne];exact he)]
 obtain ⟨e,g1,g2⟩:=key f.aj.length 0 (by omega) (fun x hx=>by cases hx);refine ⟨e,e435 _ ?_,g2⟩;rw [cond_neg (by rw [beq_eq_false_iff_ne];omega),cond_neg (by rw [decide_eq_false_iff_not];omega)];exact g1
theorem uc.Lh {f:FSt} (h:uc f) (hs:∀x∈f.aj,x.cO.length≤1000000):K1 f:=fun x hx=>⟨hs x hx,fun a ha=>by have:=(h.2.2 x hx).2.1 a ha;exact ⟨this.2.1,this.2.2⟩⟩
theorem ZM {f:FSt} (hs:∀x∈f.aj,x.cO.length≤1000000):(uc f∧f421 f=some (iz (yT f) f.aj.length 0,0))∨(¬uc f∧∃e,e≠0∧f421 f=some (⟨[]⟩,e)):=by
 obtain ⟨e,g1,g2⟩:=c435 hs;by_cases he:e=0
 ·have hg:=g2.1 he
  refine .inl ⟨hg,e421 _ ?_⟩;have e0:(0:Int)=((0:Nat):Int):=rfl;rw [g1,aH,cond_neg (by rw [bne_eq_false_iff_eq];exact he),e0,c436 (hg.Lh hs) (by have:=hg.2.1;omega) hg.1,aH]
 ·refine .inr ⟨fun h=>he (g2.2 h),e,he,e421 _ ?_⟩
  rw [g1,aH,cond_pos (by rw [bne_iff_ne];exact he)]
theorem c468 {l:List aF} {f:Int} (hl:l.length≤1000000):f468 l f=some (match fa l f with|some a=>a.To|none=> -1):=by
 have key:∀(xs:List aF) (i:Nat),l.drop i=xs→Iu l f (i:Int)=some (match fa xs f with|some a=>a.To|none=> -1):=by
  intro xs
  induction xs with
  |nil=>intro i hd;refine Tr _ _ _ ?_;rw [dm hd,cond_false];rfl
  |cons x xs ih=>
   intro i hd;refine Tr _ _ _ ?_;rw [cR hd,cond_true,bX hd,bX hd,dA hd (by omega),ih (i+1) (cH hd)];unfold fa;rw [List.find?_cons];by_cases e:x.aP=f
   ·have:(x.aP==f)=true:=by simpa using e
    rw [this,cond_true]
   ·have:(x.aP==f)=false:=by simpa using e
    rw [this,cond_false]
 exact e468 _ _ (key l 0 rfl)
theorem TQ {R:Type} {ys:List (List aF)} {i:Nat} (h:i<ys.length) (k:List aF→Option R):nrT (ys.map some) i k=k (ys.getD i []):=by
 unfold nrT;rw [List.getElem?_map,List.getElem?_eq_getElem h,List.getD_eq_getElem?_getD,List.getElem?_eq_getElem h];rfl
def O2 (ys:List (List aF)):Nat→List Int→Nat→Prop
 |x,[],y=>x=y
 |x,f::π,y=>∃z:Nat,(⟨f,(z:Int)⟩:aF)∈ys.getD x []∧O2 ys z π y
theorem O2.snoc {ys:List (List aF)} {f:Int} {z:Nat}:∀{π:List Int} {x y:Nat},O2 ys x π y→(⟨f,(z:Int)⟩:aF)∈ys.getD y []→O2 ys x (π++[f]) z
 |[],x,y,h,hz=>by cases h;exact ⟨z,hz,rfl⟩
 |g::π,x,y,⟨w,hw,h⟩,hz=>⟨w,hw,O2.snoc h hz⟩
theorem O2.mono {ys zs:List (List aF)} (h:∀x,∀a∈ys.getD x [],a∈zs.getD x []):∀{π:List Int} {x y:Nat},O2 ys x π y→O2 zs x π y
 |[],_,_,hp=>hp
 |_::π,x,y,⟨w,hw,hp⟩=>⟨w,h x _ hw,O2.mono h hp⟩
def yQ (A:List Int):List (List aF):=(List.range (A.length+1)).map fun j=>match A[j]? with
 |some f=>[⟨f,(j+1:Nat)⟩]
 |none=>[]
theorem sE {A:List Int} {j:Nat} (h:j<A.length):(yQ A).getD j []=[⟨A[j],(j+1:Nat)⟩]:=by
 unfold yQ;rw [jB (by simp;omega)];simp [h]
theorem Bo {A:List Int} {j:Nat} (h:A.length≤j):(yQ A).getD j []=[]:=by
 unfold yQ;by_cases hj:j<A.length+1
 ·rw [jB (by simpa using hj)]
  simp [List.getElem?_eq_none h]
 ·rw [List.getD_eq_getElem?_getD,List.getElem?_eq_none (by simp;omega)];rfl
theorem FX {A:List Int}:∀i,i≤A.length→O2 (yQ A) 0 (A.take i) i
 |0,_=>rfl
 |i+1,h=>by
  rw [List.take_add_one,List.getElem?_eq_getElem (by omega:i<A.length)];exact (FX i (by omega)).snoc (by rw [sE (by omega)];simp)
section
variable {F:Nat} {A B:List Int} (hA:∀f∈A,0≤f∧f<(F:Int)) (hB:∀f∈B,0≤f∧f<(F:Int)) (Zj:A.length≤1000) (QU:B.length≤1000) (hF:F≤1000) (LY:B≠[]) (hnp:¬B<+:A)
structure SI (F:Nat) (A B:List Int) (n i:Nat) (ys:List (List aF)):Prop where
 len:A.length+1≤ys.length
 le:ys.length≤A.length+1+i
 aw:∀x,x<ys.length→AW F ys.length (ys.getD x [])
 pa:O2 ys 0 A A.length
 pb:O2 ys 0 (B.take i) n
 YS:n<ys.length
 aW:∀(C:FSt) (T' k:Nat),Can T' F C→wg C A=some k→wg C B=some k→∃m:Nat→Nat,m 0=0∧m A.length=k∧m n=IK (kD C) B i∧∀x,x<ys.length→∀a∈ys.getD x [],(a.aP,m a.To.toNat)∈iO C (m x)
 ph:ys.getD n []=[]∨(n=i∧i≤A.length∧B.take i=A.take i∧ys=yQ A)
theorem add_get {ys:List (List aF)} {n x:Nat} {a:aF} (hn:n<ys.length):(ys.set n (ys.getD n []++[a])).getD x []=if n=x then ys.getD n []++[a] else ys.getD x []:=by
 rw [dS];by_cases e:n=x
 ·rw [if_pos ⟨e,by rw [←e];exact hn⟩,if_pos e]
 ·rw [if_neg (fun h=>e h.1),if_neg e]
theorem Rl {ys:List (List aF)} {n:Nat} {a:aF} (hn:n<ys.length) (x:Nat):∀b∈ys.getD x [],b∈(ys.set n (ys.getD n []++[a])).getD x []:=fun b hb=>by
 rw [add_get hn];by_cases e:n=x
 ·subst e;rw [if_pos rfl];exact List.mem_append_left _ hb
 ·rw [if_neg e];exact hb
theorem AW.snoc {F n:Nat} {l:List aF} (h:AW F n l) {a:aF} (ha:(0≤a.aP∧a.aP<(F:Int))∧0≤a.To∧a.To<(n:Int)) (hno:fa l a.aP=none):AW F n (l++[a]):=by
 refine ⟨?_,fun b hb=> ?_⟩
 ·rw [List.map_append,List.nodup_append]
  refine ⟨h.nd,by simp,fun x hx y hy=> ?_⟩;simp at hy;subst hy;obtain ⟨b,hb,rfl⟩:=List.mem_map.1 hx;exact Vi hno b hb
 ·rcases List.mem_append.1 hb with hb|hb
  ·exact h.ok b hb
  ·simp at hb;subst hb;exact ha
theorem AW.more {F n n':Nat} {l:List aF} (h:AW F n l) (hn:n≤n'):AW F n' l:=⟨h.nd,fun b hb=>⟨(h.ok b hb).1,(h.ok b hb).2.1,by have:=(h.ok b hb).2.2;omega⟩⟩
include hA in
theorem SI.init:SI F A B 0 0 (yQ A):=by
 have hl:(yQ A).length=A.length+1:=by simp [yQ]
 refine ⟨by omega,by omega,fun x hx=> ?_,?_,rfl,by omega,fun C T' k hC h1 h2=>⟨IK (kD C) A,rfl,xE h1,rfl,fun x hx a ha=> ?_⟩, .inr ⟨rfl,by omega,rfl,rfl⟩⟩
 ·rw [hl] at hx⊢
  by_cases h:x<A.length
  ·rw [sE h]
   exact ⟨by simp,fun a ha=>by simp at ha;subst ha;exact ⟨hA _ (List.getElem_mem h),by show 0≤((x+1:Nat):Int);omega,by show ((x+1:Nat):Int)<((A.length+1:Nat):Int);omega⟩⟩
  ·rw [Bo (by omega)];exact ⟨by simp,fun a ha=>by cases ha⟩
 ·have:=FX (A:=A) A.length (Nat.le_refl _)
  rwa [List.take_length] at this
 ·rw [hl] at hx
  by_cases h:x<A.length
  ·rw [sE h] at ha;simp at ha;subst ha
   exact pM hC.IL h1 h
  ·rw [Bo (by omega)] at ha;cases ha
include hB in
theorem SI.go {n i:Nat} {ys:List (List aF)} (I:SI F A B n i ys) (hi:i<B.length) {a:aF} (ha:fa (ys.getD n []) B[i]=some a):0≤a.To∧SI F A B a.To.toNat (i+1) ys:=by
 obtain ⟨h1,h2⟩:=N3 ha;rcases I.ph with h|⟨rfl,hiA,Eb,rfl⟩
 ·rw [h] at h1;cases h1
 ·have hlt:n<A.length:=by
   by_cases h:n<A.length
   ·exact h
   ·rw [Bo (by omega)] at h1;cases h1
  rw [sE hlt] at h1;simp at h1;subst h1;have h2:A[n]=B[n]:=h2;have hl:(yQ A).length=A.length+1:=by simp [yQ]
  have htk2:B.take (n+1)=A.take (n+1):=by
   rw [List.take_add_one,List.take_add_one,Eb,List.getElem?_eq_getElem hi,List.getElem?_eq_getElem hlt,h2]
  refine ⟨by show 0≤((n+1:Nat):Int);omega,?_⟩;show SI F A B ((n+1:Nat):Int).toNat (n+1) (yQ A);rw [Int.toNat_natCast];refine ⟨I.len,by have:=I.le;omega,I.aw,I.pa,?_,by omega,fun C T' k hC k1 k2=> ?_, .inr ⟨rfl,by omega,htk2,rfl⟩⟩
  ·rw [htk2];exact FX (n+1) (by omega)
  ·obtain ⟨m,m0,m1,m2,m3⟩:=I.aW C T' k hC k1 k2
   refine ⟨m,m0,m1,?_,m3⟩;have e1:=m3 n I.YS ⟨A[n],(n+1:Nat)⟩ (by rw [sE hlt];simp);have e2:=pM hC.IL k2 hi;simp only at e1;rw [m2,h2,Int.toNat_natCast] at e1;exact (hC.xG _).IL e1 e2
include hB in
theorem SI.new {n i:Nat} {ys:List (List aF)} (I:SI F A B n i ys) (hi:i<B.length) (ha:fa (ys.getD n []) B[i]=none):SI F A B ys.length (i+1) (ys.set n (ys.getD n []++[(⟨B[i],(ys.length:Nat)⟩:aF)])++[[]]):=by
 have hl:(ys.set n (ys.getD n []++[(⟨B[i],(ys.length:Nat)⟩:aF)])++[[]]).length=ys.length+1:=by simp
 have hg:∀x,x<ys.length→(ys.set n (ys.getD n []++[(⟨B[i],(ys.length:Nat)⟩:aF)])++[[]]).getD x []=if n=x then ys.getD n []++[(⟨B[i],(ys.length:Nat)⟩:aF)] else ys.getD x []:=fun x hx=>by
  rw [LU (by simpa using hx),add_get I.YS]
 have hge:(ys.set n (ys.getD n []++[(⟨B[i],(ys.length:Nat)⟩:aF)])++[[]]).getD ys.length []=[]:=by
  rw [LV (by simp)];simp
 have hmono:∀x,∀b∈ys.getD x [],b∈(ys.set n (ys.getD n []++[(⟨B[i],(ys.length:Nat)⟩:aF)])++[[]]).getD x []:=fun x b hb=>by
  by_cases hx:x<ys.length
  ·rw [hg x hx]
   by_cases e:n=x
   ·subst e;rw [if_pos rfl];exact List.mem_append_left _ hb
   ·rw [if_neg e];exact hb
  ·rw [List.getD_eq_getElem?_getD,List.getElem?_eq_none (by omega)] at hb;cases hb
 have hnl:=I.YS;have hIl:=I.len;have X4:=I.le;refine ⟨by omega,by omega,fun x hx=> ?_,I.pa.mono hmono,?_,by omega,fun C T' k hC k1 k2=> ?_, .inl hge⟩
 ·rw [hl] at hx⊢
  by_cases hx2:x<ys.length
  ·rw [hg x hx2]
   by_cases e:n=x
   ·subst e
    rw [if_pos rfl];exact ((I.aw n hx2).more (by omega)).snoc ⟨hB _ (List.getElem_mem hi),by show 0≤((ys.length:Nat):Int);omega,by show ((ys.length:Nat):Int)<((ys.length+1:Nat):Int);omega⟩ ha
   ·rw [if_neg e];exact (I.aw x hx2).more (by omega)
  ·have e:x=ys.length:=by omega
   subst e;rw [hge];exact ⟨by simp,fun a ha=>by cases ha⟩
 ·rw [List.take_add_one,List.getElem?_eq_getElem hi]
  exact (I.pb.mono hmono).snoc (by rw [hg n hnl,if_pos rfl];simp)
 ·obtain ⟨m,m0,m1,m2,m3⟩:=I.aW C T' k hC k1 k2
  refine ⟨fun x=>if x=ys.length then IK (kD C) B (i+1) else m x,?_,?_,by simp,fun x hx a Oa=> ?_⟩
  ·show (if 0=ys.length then _ else _)=0
   rw [if_neg (by omega)];exact m0
  ·show (if A.length=ys.length then _ else _)=k
   rw [if_neg (by omega)];exact m1
  ·rw [hl] at hx
   by_cases hx2:x<ys.length
   ·rw [hg x hx2] at Oa
    have old:∀b∈ys.getD x [],(b.aP,if b.To.toNat=ys.length then IK (kD C) B (i+1) else m b.To.toNat)∈iO C (if x=ys.length then IK (kD C) B (i+1) else m x):=fun b hb=>by
     have:=((I.aw x hx2).ok b hb).2;rw [if_neg (by omega),if_neg (by omega)];exact m3 x hx2 b hb
    by_cases e:n=x
    ·subst e
     rw [if_pos rfl] at Oa;rcases List.mem_append.1 Oa with Oa|Oa
     ·exact old a Oa
     ·simp at Oa;subst Oa
      show (B[i],if ((ys.length:Nat):Int).toNat=ys.length then _ else _)∈iO C (if n=ys.length then _ else _);rw [Int.toNat_natCast,if_pos rfl,if_neg (by omega),m2];exact pM hC.IL k2 hi
    ·rw [if_neg e] at Oa;exact old a Oa
   ·have e:x=ys.length:=by omega
    subst e;rw [hge] at Oa;cases Oa
include hB LY hnp in
theorem SI.last {n i:Nat} {ys:List (List aF)} (I:SI F A B n i ys) (hi:i+1=B.length):fa (ys.getD n []) (B[i]'(by omega))=none:=by
 rcases I.ph with h|⟨rfl,hiA,Eb,rfl⟩
 ·rw [h];rfl
 ·cases e:fa ((yQ A).getD n []) (B[n]'(by omega)) with
  |none=>rfl
  |some a=>
   exfalso;obtain ⟨h1,h2⟩:=N3 e;have hlt:n<A.length:=by
    by_cases h:n<A.length
    ·exact h
    ·rw [Bo (by omega)] at h1;cases h1
   rw [sE hlt] at h1;simp at h1;subst h1;have h2:A[n]=B[n]'(by omega):=h2;apply hnp;have:B=A.take (n+1):=by
    have hb:B.take (n+1)=B:=List.take_of_length_le (by omega);rw [←hb,List.take_add_one,List.take_add_one,Eb,List.getElem?_eq_getElem (by omega:n<B.length),List.getElem?_eq_getElem hlt,h2]
   rw [this];exact List.take_prefix _ _
include hA hB LY hnp Zj QU hF in
theorem SI.fin {n i:Nat} {ys:List (List aF)} (I:SI F A B n i ys) (hi:i+1=B.length) {g:FSt} (hg:g=⟨List.zipWith updA (List.replicate ys.length ⟨0,[]⟩) (ys.set n (ys.getD n []++[⟨B[i]'(by omega),(A.length:Nat)⟩]))⟩):
  ∃f,f421 g=some (f,0)∧QS F A B f:=by
 have hno:=I.last hB LY hnp hi;have hib:i<B.length:=by omega
 generalize hzs:ys.set n (ys.getD n []++[⟨B[i]'(by omega),(A.length:Nat)⟩])=zs at hg;have hzl:zs.length=ys.length:=by rw [←hzs];simp
 have lD:∀x,zs.getD x []=if n=x then ys.getD n []++[⟨B[i],(A.length:Nat)⟩] else ys.getD x []:=fun x=>by rw [←hzs];exact add_get I.YS
 have hmono:∀x,∀b∈ys.getD x [],b∈zs.getD x []:=fun x=>by rw [←hzs];exact Rl I.YS x
 have hIl:=I.len;have X4:=I.le;have Zn:∀x,x<ys.length→AW F ys.length (zs.getD x []):=fun x hx=>by
  rw [lD];by_cases e:n=x
  ·subst e
   rw [if_pos rfl];exact (I.aw n hx).snoc ⟨hB _ (List.getElem_mem hib),by show 0≤((A.length:Nat):Int);omega,by show ((A.length:Nat):Int)<((ys.length:Nat):Int);omega⟩ hno
  ·rw [if_neg e];exact I.aw x hx
 have Yf:g.aj.length=ys.length:=by rw [hg];simp [hzl]
 have hgg:∀x,x<ys.length→g.aj[x]? =some ⟨0,zs.getD x []⟩:=fun x hx=>by
  rw [hg];show (List.zipWith _ _ _)[x]? =_;rw [List.getElem?_zipWith,List.getElem?_replicate,if_pos hx,List.getElem?_eq_getElem (by omega:x<zs.length),List.getD_eq_getElem?_getD,List.getElem?_eq_getElem (by omega:x<zs.length)];rfl
 have hmem:∀y∈g.aj,∃x,x<ys.length∧y=⟨0,zs.getD x []⟩:=fun y hy=>by
  obtain ⟨x,hx⟩:=List.mem_iff_getElem?.1 hy;have hxl:=(List.getElem?_eq_some_iff.1 hx).1;rw [Yf] at hxl;rw [hgg x hxl] at hx;exact ⟨x,hxl,(Option.some.inj hx).symm⟩
 have hfg:uc g:=by
  refine ⟨by omega,by omega,fun y hy=> ?_⟩;obtain ⟨x,hx,rfl⟩:=hmem y hy;refine ⟨Int.le_refl 0,fun a ha=> ?_,(Zn x hx).nd⟩;have:=(Zn x hx).ok a ha;rw [Yf];exact ⟨this.1.1,this.2.1,this.2.2⟩
 have hs:∀y∈g.aj,y.cO.length≤1000000:=fun y hy=>by
  obtain ⟨x,hx,rfl⟩:=hmem y hy;have:=(Zn x hx).len;show (zs.getD x []).length≤_;omega
 rcases ZM hs with ⟨_,e⟩|⟨hno,_⟩
 ·have hsc:∀x,x<ys.length→A4 g x=(BA (zs.getD x [])).map fun a=>(a.aP,a.To.toNat):=fun x hx=>by unfold A4;rw [hgg x hx]
  have hty:∀x,x<ys.length→pq g x=0:=fun x hx=>by unfold pq;rw [hgg x hx]
  have Se:GO 1 F (yT g) ys.length:=by
   refine ⟨fun x hx p hp=> ?_,fun x hx=> ?_,fun x hx p hp=> ?_,fun x hx=> ?_⟩
   ·have hp:p∈A4 g x:=hp
    rw [hsc x hx] at hp;obtain ⟨a,ha,rfl⟩:=List.mem_map.1 hp;have:=((Zn x hx).BA.ok a ha).2;show a.To.toNat<_;omega
   ·show vc (A4 g x)
    rw [hsc x hx];unfold vc;rw [List.pairwise_map];exact (Zn x hx).BA.xG
   ·have hp:p∈A4 g x:=hp
    rw [hsc x hx] at hp;obtain ⟨a,ha,rfl⟩:=List.mem_map.1 hp;exact ((Zn x hx).BA.ok a ha).1
   ·show 0≤pq g x∧pq g x<_
    rw [hty x hx];omega
  have h0:0<ys.length:=by omega
  have hpth:∀{π:List Int} {x y:Nat},x<ys.length→O2 zs x π y→vE (yT g) x π=some y:=by
   intro π
   induction π with
   |nil=>intro x y _ h;cases h;rfl
   |cons f π ih=>
    intro x y hx h;obtain ⟨w,hw,h⟩:=h;have hm:(f,w)∈(yT g).sc x:=by
     show _∈A4 g x;rw [hsc x hx];exact List.mem_map.2 ⟨_,(nJ _).2.2 _|>.2 hw,by simp⟩
    have hwl:w<ys.length:=Se.bd x hx _ hm;show (match Rc ((yT g).sc x) f with|some k=>vE (yT g) k π|none=>none)=_;rw [(pg (Se.xG x hx)).2 hm];exact ih hwl h
  have Z7:=hpth h0 (I.pa.mono hmono);have hPB:vE (yT g) 0 B=some A.length:=by
   have hb:B.take i++[B[i]]=B:=by
    have:=List.take_of_length_le (by omega:B.length≤i+1);rw [List.take_add_one,List.getElem?_eq_getElem hib] at this;exact this
   have:=hpth h0 ((I.pb.mono hmono).snoc (f:=B[i]) (z:=A.length) (by rw [lD,if_pos rfl];simp))
   rwa [hb] at this
  have hc:Can 1 F (iz (yT g) ys.length 0):=Lz Se h0;have hh:=Oe (sb:=K0) Se h0 UC.refl;have hasc:∀i,vB (yT g).sc 0 i→vc ((yT g).sc i):=fun i hi=>Se.xG i (hi.lt Se.bd h0)
  have qA:=(Gf hh hasc hc.IL A 0 _ .root Z7).2;have qB:=(Gf hh hasc hc.IL B 0 _ .root hPB).2;have q0:(gj (yT g) ys.length 0).idxOf 0=0:=hh.1;simp only [q0] at qA qB;refine ⟨_,e,?_⟩;rw [Yf];refine ⟨hc,⟨_,qA,qB⟩,fun C T' sb hT hC hk=> ?_⟩;obtain ⟨k,k1,k2⟩:=hk;obtain ⟨m,m0,m1,m2,m3⟩:=I.aW C T' k hC k1 k2;refine le_zero hT hc hC ?_;have hl:(List.replicate C.aj.length (0:Int)).length=C.aj.length:=by simp
  have esc:(kD (Fo C (List.replicate C.aj.length 0))).sc=(kD C).sc:=HB hl;have ety:∀y,(kD (Fo C (List.replicate C.aj.length 0))).ty y=0:=fun y=>by
   show pq _ y=0;by_cases hy:y<C.aj.length
   ·rw [Nd hl hy,List.getD_eq_getElem?_getD,List.getElem?_replicate,if_pos hy];rfl
   ·unfold pq;rw [List.getElem?_eq_none (by rw [yD hl];omega)]
  have hm:BT K0 (yT g) 0 (kD (Fo C (List.replicate C.aj.length 0))) 0 m:=by
   refine ⟨m0,fun x hx=>⟨⟨hty x (hx.lt Se.bd h0),ety _⟩,fun p hp=> ?_⟩⟩;have hxl:=hx.lt Se.bd h0;have hp:p∈A4 g x:=hp;rw [hsc x hxl] at hp;obtain ⟨a,ha,rfl⟩:=List.mem_map.1 hp;have ha:=(nJ _).2.2 a|>.1 ha
   rw [esc];rw [lD] at ha;by_cases e2:n=x
   ·subst e2
    rw [if_pos rfl] at ha;rcases List.mem_append.1 ha with ha|ha
    ·exact m3 n hxl a ha
    ·simp at ha;subst ha
     show (B[i],m ((A.length:Nat):Int).toNat)∈iO C (m n);rw [Int.toNat_natCast,m1,m2];have:=pM hC.IL k2 hib;have e3:IK (kD C) B (i+1)=k:=by rw [hi];exact xE k2
     rw [e3] at this;exact this
   ·rw [if_neg e2] at ha;exact m3 x hxl a ha
  exact ⟨_,BT.comp (s1:=K0) (s2:=K0) (s3:=K0) (fun a b=>UC.trans a b) (NP Se h0 UC.refl) hm⟩
 ·exact absurd hfg hno
include hA hB LY hnp Zj QU hF in
theorem Vo {o4:FSt}:∀(k i n:Nat) (ys:List (List aF)),B.length=i+1+k→SI F A B n i ys→∃f,mB A B (n:Int) (i:Int) o4 (List.replicate ys.length ⟨0,[]⟩) (ys.map some)=some f∧QS F A B f:=by
 intro k
 induction k with
 |zero=>
  intro i n ys hi I;have hnl:=I.YS;have X4:=I.le;have hib:i<B.length:=by omega
  have hlen:=(I.aw n hnl).len;obtain ⟨f,g1,g2⟩:=I.fin hA hB Zj QU hF LY hnp (by omega) rfl;refine ⟨f,JY _ _ _ _ _ _ _ ?_,g2⟩;have rC:IntKind.wrap .i64 ((B.length:Int)-1)=(i:Int):=by rw [iK (by omega) (by omega)];omega
  rw [cU (by omega),cond_neg (by rw [decide_eq_false_iff_not];omega),xM (by simpa using hnl),Int.toNat_natCast,Fg hnl,rC,ek hib,cM _ (by omega) (by simp) (by omega),bY ⟨by omega,by simpa using hnl⟩,bY (by simpa using hnl),List.set_set];rw [qP];have em:(ys.map some).set n (some (ys.getD n []++[⟨B[i],(A.length:Nat)⟩]))=(ys.set n (ys.getD n []++[⟨B[i],(A.length:Nat)⟩])).map some:=by rw [List.map_set]
  rw [em];show O3 updA _ _ _=_;rw [O4 (by simp),g1,aH]
 |succ k ih=>
  intro i n ys hi I;have hnl:=I.YS;have X4:=I.le;have hib:i<B.length:=by omega
  have hlen:=(I.aw n hnl).len
  have pre:∀r,(bif (decide (((match fa (ys.getD n []) B[i] with|some a=>a.To|none=> -1):Int)<0)) then (
    check (0≤(n:Int)∧Int.toNat (n:Int)<List.length (List.replicate ys.length (⟨0,[]⟩:Node))) (
    M3 (ys.map some) (Int.toNat (n:Int)) fun wG Db=>
    bS B (i:Int) fun D6=>
    check ((List.length wG+List.length [(aF.mk D6 ((List.length (List.replicate ys.length (⟨0,[]⟩:Node)):Int)))]) *16≤140737488355328∧List.length wG+List.length [(aF.mk D6 ((List.length (List.replicate ys.length (⟨0,[]⟩:Node)):Int)))]≤4611686018427387904) (
    check (0≤(n:Int)∧Int.toNat (n:Int)<List.length (List.replicate ys.length (⟨0,[]⟩:Node))) (
    check ((Int.toNat (n:Int))<List.length Db) (uy (List.set Db (Int.toNat (n:Int)) (some (wG++[(aF.mk D6 ((List.length (List.replicate ys.length (⟨0,[]⟩:Node)):Int)))]))) fun VJ=>
    check ((List.length (List.replicate ys.length (⟨0,[]⟩:Node))+List.length [(Node.mk 0 ([]:List aF))]) *32≤140737488355328∧List.length (List.replicate ys.length (⟨0,[]⟩:Node))+List.length [(Node.mk 0 ([]:List aF))]≤4611686018427387904) (
    uy (VJ++[some []]) fun PW=>
    mB A B ((List.length (List.replicate ys.length (⟨0,[]⟩:Node)):Int)) ((i+1:Nat):Int) o4 ((List.replicate ys.length (⟨0,[]⟩:Node))++[(Node.mk 0 ([]:List aF))]) PW))))))
    else mB A B (match fa (ys.getD n []) B[i] with|some a=>a.To|none=> -1) ((i+1:Nat):Int) o4 (List.replicate ys.length ⟨0,[]⟩) (ys.map some))=some r→mB A B (n:Int) (i:Int) o4 (List.replicate ys.length ⟨0,[]⟩) (ys.map some)=some r:=fun r hr=>by
   refine JY _ _ _ _ _ _ _ ?_;rw [cU (by omega),cond_pos (by rw [decide_eq_true_iff];omega),xM (by simpa using hnl),bY (by simpa using hnl),ek hib,Int.toNat_natCast,TQ hnl,c468 (by omega),aH];rw [Int.toNat_natCast] at hr;exact hr
  cases e:fa (ys.getD n []) B[i] with
  |some a=>
   obtain ⟨h1,h2⟩:=I.go hB hib e;obtain ⟨f,g1,g2⟩:=ih (i+1) a.To.toNat ys (by omega) h2;refine ⟨f,pre f ?_,g2⟩;rw [e];simp only [];rw [cond_neg (by rw [decide_eq_false_iff_not];omega)];have:((a.To.toNat:Nat):Int)=a.To:=by omega
   rw [this] at g1;exact g1
  |none=>
   have I2:=I.new hB hib e;obtain ⟨f,g1,g2⟩:=ih (i+1) ys.length _ (by omega) I2;refine ⟨f,pre f ?_,g2⟩;rw [e];simp only [];rw [cond_pos (by rfl),xM (by simpa using hnl),Int.toNat_natCast,Fg hnl,ek hib,cM _ (by omega) (by simp) (by omega),bY ⟨by omega,by simpa using hnl⟩,bY (by simpa using hnl),List.set_set];rw [qP,cM _ (by simp;omega) (by simp) (by omega),qP,List.length_replicate];have em:(ys.map some).set n (some (ys.getD n []++[(⟨B[i],(ys.length:Nat)⟩:aF)]))++[some []]=(ys.set n (ys.getD n []++[(⟨B[i],(ys.length:Nat)⟩:aF)])++[[]]).map some:=by rw [List.map_append,List.map_set];rfl
   rw [em,←List.replicate_succ'];have Bi:(ys.set n (ys.getD n []++[(⟨B[i],(ys.length:Nat)⟩:aF)])++[[]]).length=ys.length+1:=by simp
   rw [Bi] at g1;exact g1
include hA hB LY hnp Zj QU hF in
theorem c439:∃f,f439 A B=some f∧QS F A B f:=by
 have hbp:0<B.length:=List.length_pos_iff.2 LY;obtain ⟨f,g1,g2⟩:=Vo hA hB Zj QU hF LY hnp (o4:=⟨[]⟩) (B.length-1) 0 0 (yQ A) (by omega) (SI.init hA);refine ⟨f,e439 _ _ ?_,g2⟩;rw [cM _ (by simp) (by simp) (by omega)];unfold uy;have hl:(yQ A).length=A.length+1:=by simp [yQ]
 rw [hl] at g1;have key:∀(k i:Nat),A.length=i+k→vo A B (i:Int) ⟨[]⟩ (List.replicate (i+1) ⟨0,[]⟩) ((((yQ A).take i)++[[]]).map some)=some f:=by
  intro k
  induction k with
  |zero=>
   intro i hi;have e:i=A.length:=by omega
   subst e;refine Oq _ _ _ _ _ _ ?_;rw [cond_neg (by rw [decide_eq_false_iff_not];omega)];have:(yQ A).take A.length++[[]]=yQ A:=by
    have h2:(yQ A).drop A.length=[[]]:=by
     apply List.ext_getElem?;intro j;rw [List.getElem?_drop];cases j with
     |zero=>simp [yQ]
     |succ j=>rw [List.getElem?_eq_none (by rw [hl];omega)];simp
    rw [←h2,List.take_append_drop]
   rw [this];exact g1
  |succ k ih=>
   intro i hi;have hil:i<A.length:=by omega
   refine Oq _ _ _ _ _ _ ?_;rw [cond_pos (by rw [decide_eq_true_iff];omega),ek hil,xM (by simp),bY (by simp [hl];omega),Int.toNat_natCast];rw [qP,cM _ (by simp;omega) (by simp) (by omega),cU (by omega),←List.replicate_succ'];have:=ih (i+1) (by omega);have em:((((yQ A).take i)++[[]]).map some).set i (some [⟨A[i],((i+1:Nat):Int)⟩])++[some []]=(((yQ A).take (i+1))++[[]]).map some:=by
    have hti:((yQ A).take i).length=i:=by rw [List.length_take,hl];omega
    have hgi:(yQ A)[i]? =some [⟨A[i],((i+1:Nat):Int)⟩]:=by
     have:=sE hil;rw [List.getD_eq_getElem?_getD,List.getElem?_eq_getElem (by omega:i<(yQ A).length)] at this;rw [List.getElem?_eq_getElem (by omega:i<(yQ A).length)];exact congrArg some this
    rw [List.map_append,List.set_append_right _ _ (by simp;omega),List.take_add_one,hgi];have:i-(((yQ A).take i).map some).length=0:=by rw [List.length_map,hti];omega
    rw [this];simp
   rw [em,qP];exact this
 have:=key A.length 0 (by omega);simpa using this
end
end Go.Proofs.YthppjmoncapdfaaGreatDoor.cl.pf
set_option linter.unusedVariables false
set_option linter.unusedSimpArgs false
set_option linter.unusedSectionVars false
namespace Go.Proofs.YthppjmoncapdfaaGreatDoor.cl.pf
open Go Go.AM
def Uz (l:List aF):List Int:=l.flatMap fun a=>[a.aP,a.To]
def UA (x:Node):List Int:=[x.dN,(x.cO.length:Int)]++Uz x.cO
def WW (f:FSt):List Int:=(f.aj.length:Int)::f.aj.flatMap UA
theorem Oy (l:List aF):(Uz l).length=2 *l.length:=by
 induction l with
 |nil=>rfl
 |cons a l ih=>simp only [Uz,List.flatMap_cons,List.length_append,List.length_cons,List.length_nil] at ih⊢;omega
theorem Ox:∀{l m:List aF} {x y:List Int},l.length=m.length→Uz l++x=Uz m++y→l=m∧x=y
 |[],[],x,y,_,h=>⟨rfl,by simpa [Uz] using h⟩
 |a::l,b::m,x,y,hl,h=>by
  simp only [Uz,List.flatMap_cons,List.cons_append,List.nil_append,List.cons.injEq] at h;obtain ⟨h1,h2,h3⟩:=h;obtain ⟨e1,e2⟩:=Ox (l:=l) (m:=m) (by simpa using hl) h3;exact ⟨by rw [e1];congr 1;cases a;cases b;simp_all,e2⟩
 |[],b::m,_,_,hl,_=>by simp at hl
 |a::l,[],_,_,hl,_=>by simp at hl
theorem VQ {a b:Node} {x y:List Int} (h:UA a++x=UA b++y):a=b∧x=y:=by
 simp only [UA,List.cons_append,List.nil_append,List.cons.injEq] at h;obtain ⟨h1,h2,h3⟩:=h;obtain ⟨e1,e2⟩:=Ox (by omega) h3;exact ⟨by cases a;cases b;simp_all,e2⟩
theorem Oz:∀{l m:List Node} {x y:List Int},l.length=m.length→l.flatMap UA++x=m.flatMap UA++y→l=m∧x=y
 |[],[],x,y,_,h=>⟨rfl,by simpa using h⟩
 |a::l,b::m,x,y,hl,h=>by
  rw [List.flatMap_cons,List.flatMap_cons,List.append_assoc,List.append_assoc] at h;obtain ⟨e1,h2⟩:=VQ h;obtain ⟨e2,e3⟩:=Oz (by simpa using hl) h2;exact ⟨by rw [e1,e2],e3⟩
 |[],b::m,_,_,hl,_=>by simp at hl
 |a::l,[],_,_,hl,_=>by simp at hl
theorem VO {a b:FSt} {x y:List Int} (h:WW a++x=WW b++y):a=b:=by
 simp only [WW,List.cons_append,List.cons.injEq] at h;obtain ⟨h1,h2⟩:=h;have:=(Oz (by omega) h2).1;cases a;cases b;simp_all
structure Sm (f:FSt):Prop where
 n:f.aj.length≤5000
 a:∀x∈f.aj,x.cO.length≤1000
theorem XV {f:FSt} {i:Nat} {res:List Int} {l:List aF} (hl:l.length≤1000):∀(xs:List aF) (k:Nat) (o:List Int),l.drop k=xs→o.length+2 *xs.length≤100000000→
  DQ (IntKind.wrap .i64 ((i:Int)+1)) f (o++Uz xs)=some res→Io (i:Int) l (k:Int) f o=some res:=by
 intro xs
 induction xs with
 |nil=>
  intro k o hd _ hr;refine Tk _ _ _ _ _ ?_;rw [dm hd,cond_false];simpa [Uz] using hr
 |cons x xs ih=>
  intro k o hd ho hr;refine Tk _ _ _ _ _ ?_;rw [cR hd,cond_true,bX hd,bX hd,cM _ (by simp at ho;omega) (by simp) (by omega),dA hd (by omega)];refine ih (k+1) _ (cH hd) (by simp at ho⊢;omega) ?_;simpa [Uz] using hr
theorem XU {f:FSt} (hf:Sm f):∀(xs:List Node) (i:Nat) (o:List Int),f.aj.drop i=xs→o.length+2002 *xs.length≤100000000→DQ (i:Int) f o=some (o++xs.flatMap UA):=by
 intro xs
 induction xs with
 |nil=>
  intro i o hd _;refine Tj _ _ _ ?_;rw [dm hd,cond_false];simp
 |cons x xs ih=>
  intro i o hd ho;have hx:=hf.a x (List.mem_of_getElem? (dG hd));have hn:=hf.n;refine Tj _ _ _ ?_;rw [cR hd,cond_true,bX hd,bX hd,cM _ (by simp at ho;omega) (by simp) (by omega)];refine XV hx x.cO 0 _ rfl (by simp at ho⊢;omega) ?_;rw [dA hd (by omega),ih (i+1) _ (cH hd) (by simp [Oy] at ho⊢;omega)];simp [UA]
theorem ZO {f:FSt} (hf:Sm f):f432 f=some (WW f):=by
 refine e432 _ ?_;exact XU hf f.aj 0 [(f.aj.length:Int)] rfl (by have:=hf.n;simp;omega)
theorem OA:∀{l:List Node},(∀x∈l,x.cO.length≤1000)→(l.flatMap UA).length≤2002 *l.length
 |[],_=>by simp
 |x::l,h=>by
  have h1:=h x (by simp);have h2:=OA (l:=l) fun y hy=>h y (by simp [hy])
  rw [List.flatMap_cons,List.length_append,List.length_cons];simp only [UA,List.length_append,List.length_cons,List.length_nil,Oy];omega
theorem VP {f:FSt} (hf:Sm f):(WW f).length≤1000000000:=by
 have:=OA hf.a;have:=hf.n;simp only [WW,List.length_cons];omega
theorem h418 {l m:List Int} (hl:l.length≤1000000000):∀(xs ys:List Int) (i:Nat),l.drop i=xs→m.drop i=ys→∃r,H9 l m (i:Int)=some r∧(r=0↔∃x y,xs++x=ys++y):=by
 intro xs
 induction xs with
 |nil=>
  intro ys i hd hm;refine ⟨0,CR _ _ _ ?_,⟨fun _=>⟨ys,[],by simp⟩,fun _=>rfl⟩⟩;rw [dm hd,cond_false]
 |cons a xs ih=>
  intro ys i hd hm;cases ys with
  |nil=>
   refine ⟨0,CR _ _ _ ?_,⟨fun _=>⟨[],a::xs,by simp⟩,fun _=>rfl⟩⟩;rw [cR hd,cond_true,dm hm,cond_false]
  |cons b ys=>
   by_cases h1:a<b
   ·refine ⟨-1,CR _ _ _ ?_,⟨fun e=>by omega,fun ⟨x,y,e⟩=>by simp at e;omega⟩⟩
    rw [cR hd,cond_true,cR hm,cond_true,bX hd,bX hm,cond_pos (by rw [decide_eq_true_iff];exact h1)]
   by_cases h2:a>b
   ·refine ⟨1,CR _ _ _ ?_,⟨fun e=>by omega,fun ⟨x,y,e⟩=>by simp at e;omega⟩⟩
    rw [cR hd,cond_true,cR hm,cond_true,bX hd,bX hm,cond_neg (by rw [decide_eq_false_iff_not];exact h1),bX hd,bX hm,cond_pos (by rw [decide_eq_true_iff];exact h2)]
   have e:a=b:=by omega
   obtain ⟨r,g1,g2⟩:=ih ys (i+1) (cH hd) (cH hm);refine ⟨r,CR _ _ _ ?_,g2.trans ?_⟩
   ·rw [cR hd,cond_true,cR hm,cond_true,bX hd,bX hm,cond_neg (by rw [decide_eq_false_iff_not];exact h1),bX hd,bX hm,cond_neg (by rw [decide_eq_false_iff_not];exact h2),dA hd (by omega)];exact g1
   ·subst e;simp
theorem ZL {a b:FSt} (ha:Sm a) (hb:Sm b):∃r,f407 a b=some r∧(r=true↔a=b):=by
 obtain ⟨r,g1,g2⟩:=h418 (l:=WW a) (m:=WW b) (VP ha) _ _ 0 rfl rfl;have hc:f418 a b=some r:=e418 _ _ (by rw [ZO ha,aH,ZO hb,aH];exact g1);refine ⟨r==0,e407 _ _ (by rw [hc,aH]),?_⟩;rw [beq_iff_eq,g2];exact ⟨fun ⟨x,y,e⟩=>VO e,fun e=>⟨[],[],by rw [e]⟩⟩
theorem U7 {a:FSt} (ha:Sm a):f407 a a=some true:=by
 obtain ⟨r,g1,g2⟩:=ZL ha ha;rw [g1,g2.2 rfl]
theorem Wc {f:FSt} (h:∀x∈f.aj,yV x.cO):yT f=kD f:=by
 unfold yT kD
 congr 1
 funext n
 by_cases hn:n<f.aj.length
 ·rw [uT hn,zY hn,Y9 (h _ (List.getElem_mem hn))];rfl
 ·rw [Bz (by omega)]
  unfold A4;rw [List.getElem?_eq_none (by omega)]
def InB (T F:Nat) (x:Node):Prop:=x.dN<(T:Int)∧∀a∈x.cO,a.aP<(F:Int)
theorem Y8 {T F:Nat} {f:FSt} (hg:uc f) (hs:∀x∈f.aj,x.cO.length≤1000) (hb:∀x∈f.aj,InB T F x):GO T F (yT f) f.aj.length:=by
 refine ⟨HE (hg.Lh fun x hx=>by have:=hs x hx;omega),fun n hn=> ?_,fun n hn p hp=> ?_,fun n hn=> ?_⟩
 ·show vc (A4 f n)
  rw [uT hn];have:=OS (hg.2.2 _ (List.getElem_mem hn)).2.2;unfold vc;rw [List.pairwise_map];exact this
 ·have hp:p∈A4 f n:=hp
  rw [uT hn] at hp;obtain ⟨a,ha,rfl⟩:=List.mem_map.1 hp;have ha:=(nJ _).2.2 a|>.1 ha
  exact ⟨((hg.2.2 _ (List.getElem_mem hn)).2.1 a ha).1,(hb _ (List.getElem_mem hn)).2 a ha⟩
 ·show 0≤pq f n∧_
  have e:(yT f).ty n=f.aj[n].dN:=uX hn;rw [e,uX hn];exact ⟨(hg.2.2 _ (List.getElem_mem hn)).1,(hb _ (List.getElem_mem hn)).1⟩
theorem Can.sr {T F:Nat} {f:FSt} (h:Can T F f):iz (yT f) f.aj.length 0=f:=by
 rw [Wc fun x hx=>(h.ao hx).xG];exact h.eq.symm
theorem Can.sm {T F:Nat} {f:FSt} (h:Can T F f) (hn:f.aj.length≤5000) (hF:F≤1000):Sm f:=⟨hn,fun x hx=>by have:=(h.ao hx).len;omega⟩
theorem XB {T F:Nat} {f:FSt} (hg:uc f) (hs:∀x∈f.aj,x.cO.length≤1000) (hb:∀x∈f.aj,InB T F x):f=iz (yT f) f.aj.length 0↔Can T F f:=
 ⟨fun e=>by
  have:=Lz (Y8 hg hs hb) hg.1
  rw [←e] at this;exact this,fun h=>h.sr.symm⟩
theorem Y6 {f:FSt} (hg:uc f) (hs:∀x∈f.aj,x.cO.length≤1000):Sm (iz (yT f) f.aj.length 0):=by
 have hB:=HE (hg.Lh fun x hx=>by have:=hs x hx;omega);have hm:=qT (G:=yT f) hB hg.1;have hl:=tQ hm.nd hm.lt;refine ⟨by rw [Cl];have:=hg.2.1;omega,fun x hx=> ?_⟩;obtain ⟨n,hn,rfl⟩:=List.mem_map.1 hx;have hnl:=hm.lt n hn;have e:(yT f).sc n=_:=uT hnl;simp only [List.length_map,e,(nJ _).2.1];exact hs _ (List.getElem_mem hnl)
structure K8 (f:FSt):Prop where
 n:f.aj.length≤12
 a:∀x∈f.aj,x.cO.length≤12
theorem c413 (f:FSt):∃r,f413 f=some r∧(r=true→K8 f):=by
 by_cases h1:f.aj.length>12
 ·refine ⟨false,e413 _ ?_,fun e=>by cases e⟩
  rw [cond_pos (by rw [decide_eq_true_iff];omega)]
 have key:∀(xs:List Node) (i:Nat),f.aj.drop i=xs→∃r,H8 (i:Int) f=some r∧(r=true→∀x∈xs,x.cO.length≤12):=by
  intro xs
  induction xs with
  |nil=>
   intro i hd;refine ⟨true,Mc _ _ ?_,fun _ x hx=>by cases hx⟩;rw [dm hd,cond_false]
  |cons x xs ih=>
   intro i hd;by_cases h2:x.cO.length>12
   ·refine ⟨false,Mc _ _ ?_,fun e=>by cases e⟩
    rw [cR hd,cond_true,bX hd,cond_pos (by rw [decide_eq_true_iff];omega)]
   ·obtain ⟨r,g1,g2⟩:=ih (i+1) (cH hd)
    refine ⟨r,Mc _ _ ?_,fun e y hy=> ?_⟩
    ·rw [cR hd,cond_true,bX hd,cond_neg (by rw [decide_eq_false_iff_not];omega),dA hd (by omega)];exact g1
    ·rcases List.mem_cons.1 hy with rfl|hy
     ·omega
     ·exact g2 e y hy
 obtain ⟨r,g1,g2⟩:=key f.aj 0 rfl;refine ⟨r,e413 _ ?_,fun e=>⟨by omega,g2 e⟩⟩;rw [cond_neg (by rw [decide_eq_false_iff_not];omega)];exact g1
theorem K8.sm {f:FSt} (h:K8 f):Sm f:=⟨by have:=h.n;omega,fun x hx=>by have:=h.a x hx;omega⟩
structure Val (T F:Nat) (f:FSt):Prop where
 lt:K8 f
 can:Can T F f
theorem c398 (f:FSt):∃r,f398 f=some r∧(r=true→Val 256 64 f):=by
 obtain ⟨r,g1,g2⟩:=c413 f;cases r with
 |false=>exact ⟨false,e398 _ (by rw [g1,aH];rfl),fun e=>by cases e⟩
 |true=>
  have hl:=g2 rfl;have hs:∀x∈f.aj,x.cO.length≤1000:=fun x hx=>by have:=hl.a x hx;omega
  have hn:=hl.n;have inner:∀{i:Nat} {x:Node} (hx:f.aj[i]? =some x) {Q:Prop},(∃r,DL (IntKind.wrap .i64 ((i:Int)+1)) f=some r∧(r=true→Q))→∀(xs:List aF) (k:Nat),x.cO.drop k=xs→
    ∃r,HU (i:Int) (k:Int) f=some r∧(r=true→(∀a∈xs,a.aP<64)∧Q):=by
   intro i x hx Q hr xs;have hxl:=hs x (List.mem_of_getElem? hx)
   induction xs with
   |nil=>
    intro k hd;obtain ⟨r,q1,q2⟩:=hr;refine ⟨r,Ma _ _ _ ?_,fun e=>⟨fun a ha=>by (cases ha),q2 e⟩⟩;rw [eo hx,dm hd,cond_false];exact q1
   |cons a xs ih=>
    intro k hd;by_cases h1:a.aP≥64
    ·refine ⟨false,Ma _ _ _ ?_,fun e=>by cases e⟩
     rw [eo hx,cR hd,cond_true,eo hx,bX hd,cond_pos (by rw [decide_eq_true_iff];exact h1)]
    ·obtain ⟨r,q1,q2⟩:=ih (k+1) (cH hd)
     refine ⟨r,Ma _ _ _ ?_,fun e=>⟨fun b hb=> ?_,(q2 e).2⟩⟩
     ·rw [eo hx,cR hd,cond_true,eo hx,bX hd,cond_neg (by rw [decide_eq_false_iff_not];exact h1),dA hd (by omega)];exact q1
     ·rcases List.mem_cons.1 hb with rfl|hb
      ·omega
      ·exact (q2 e).1 b hb
  have key:∀(xs:List Node) (i:Nat),f.aj.drop i=xs→∃r,DL (i:Int) f=some r∧(r=true→(∀x∈xs,InB 256 64 x)∧uc f∧f=iz (yT f) f.aj.length 0):=by
   intro xs
   induction xs with
   |nil=>
    intro i hd;rcases ZM (f:=f) (fun x hx=>by have:=hs x hx;omega) with ⟨hg,q1⟩|⟨hg,e,he,q1⟩
    ·obtain ⟨r,q2,q3⟩:=ZL (Y6 hg hs) hl.sm
     refine ⟨r,Gj _ _ ?_,fun e=>⟨fun x hx=>by (cases hx),hg,(q3.1 e).symm⟩⟩;rw [dm hd,cond_false,q1,aH,cond_pos (by rfl),q2,aH]
    ·refine ⟨false,Gj _ _ ?_,fun e=>by cases e⟩
     rw [dm hd,cond_false,q1,aH,cond_neg (by rw [beq_eq_false_iff_ne];exact he)]
   |cons x xs ih=>
    intro i hd;have hx:=dG hd;by_cases h1:x.dN≥256
    ·refine ⟨false,Gj _ _ ?_,fun e=>by cases e⟩
     rw [cR hd,cond_true,bX hd,cond_pos (by rw [decide_eq_true_iff];exact h1)]
    ·obtain ⟨r,q1,q2⟩:=inner hx (by rw [dA hd (by omega)];exact ih (i+1) (cH hd)) x.cO 0 rfl
     refine ⟨r,Gj _ _ ?_,fun e=>⟨fun y hy=> ?_,(q2 e).2.2⟩⟩
     ·rw [cR hd,cond_true,bX hd,cond_neg (by rw [decide_eq_false_iff_not];exact h1)];exact q1
     ·rcases List.mem_cons.1 hy with rfl|hy
      ·exact ⟨by show y.dN<((256:Nat):Int);omega,fun a ha=>(q2 e).1 a ha⟩
      ·exact (q2 e).2.1 y hy
  obtain ⟨r,q1,q2⟩:=key f.aj 0 rfl;refine ⟨r,e398 _ (by rw [g1,aH,cond_neg (by rfl)];exact q1),fun e=>⟨hl,?_⟩⟩;obtain ⟨h1,h2,h3⟩:=q2 e;exact (XB h2 hs h1).1 h3
end Go.Proofs.YthppjmoncapdfaaGreatDoor.cl.pf
set_option linter.unusedVariables false
set_option linter.unusedSimpArgs false
set_option linter.unusedSectionVars false
namespace Go.Proofs.YthppjmoncapdfaaGreatDoor.cl.pf
open Go Go.AM
theorem B5:∀l:List aF,qY (l.map aF.enc)=some (l.map fun a=>(a.aP,a.To))
 |[]=>rfl
 |x::l=>by
  rw [List.map_cons,List.map_cons];show (qY (l.map aF.enc)).map ((x.aP,x.To):: ·)=_;rw [B5 l];rfl
end Go.Proofs.YthppjmoncapdfaaGreatDoor.cl.pf
