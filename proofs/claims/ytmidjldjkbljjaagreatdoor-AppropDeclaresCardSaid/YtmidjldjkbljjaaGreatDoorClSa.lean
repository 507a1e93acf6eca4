/- Accepted declarations. -/
import Derived.Test.YtmidjldjkbljjaaGreatDoorClNe
import Derived.Test.YtmidjldjkbljjaaGreatDoorClPd
set_option linter.unusedVariables false
set_option linter.unusedSimpArgs false
set_option linter.unusedSectionVars false
namespace Go.Proofs.YtmidjldjkbljjaaGreatDoor.cl
open Go Go.AM
theorem O5 {d:List af} (A:Acc d) (h64:d.length≤64):Fm (fq d) (nY (fq d))∧∀w∈nY (fq d),Dn d w:=by
 have hlen:(fq d).length≤256:=by have:=sQ (d:=d);omega
 obtain ⟨F,_,_⟩:=rM (mS A) wR hlen
 exact ⟨F,F.gen (Dn d) (fun c hc=>by
  obtain ⟨x,_,rfl⟩:=List.mem_map.1 hc
  exact Ln x) (fun a b=>OP)⟩
theorem Hp {d:List af} (A:Acc d) (h64:d.length≤64):((bL d).map (·.1)).Nodup:=by
 obtain ⟨F,D⟩:=O5 A h64;have hp:=(sU (d:=d)).2.map (·.1);rw [List.map_map] at hp;refine hp.nodup_iff.2 (Dg F.nd fun x hx y hy h=> ?_);exact L9 A h64 (CH F (oK h64) x hx) (CH F (oK h64) y hy) (F.nz x hx) (F.nz y hy) (D x hx) (D y hy) h
theorem vz {α:Type} {l:List α} (h:l.Nodup) {i k:Nat} (hi:i<l.length) (hk:k<l.length) (e:l[i]=l[k]):i=k:=by
 have h':=List.pairwise_iff_getElem.1 h;rcases Nat.lt_trichotomy i k with h1|h1|h1
 ·exact absurd e (h' i k hi hk h1)
 ·exact h1
 ·exact absurd e.symm (h' k i hk hi h1)
theorem SX {d:List af} (h:kn d=true):Sz d∧d.length≤16∧(∀t∈d,t.bz.length≤20):=by
 simp only [kn,Bool.and_eq_true,decide_eq_true_eq,List.all_eq_true] at h;exact ⟨⟨by omega,fun t ht=>by have:=(h.2 t ht).1;omega⟩,h.1,fun t ht=>(h.2 t ht).2⟩
structure Ok (d:List af):Prop where
 z:Sz d
 acc:Acc d
 len:d.length≤64
 le:(nY (fq d)).length≤256
noncomputable def tys (d:List af):List Nat:=(bL d).map (·.2)
noncomputable def ff (d:List af):List ak:=(bL d).map qg
theorem cS {d:List af}:(ff d).length=(tys d).length:=by simp [tys,ff]
theorem Ok.GM {d:List af} (h:Ok d):Uz (tys d):=cl.GM h.acc h.len h.le
theorem Ok.cd {d:List af} (h:Ok d):Cd (ff d) (tys d):=Sh h.acc h.len h.le
theorem Ok.bQ {d:List af} (h:Ok d):(tys d).length≤256:=by
 have:=(sS (d:=d)).length_eq;rw [tys,this];exact h.le
theorem Ok.lt {d:List af} (h:Ok d) {i:Nat} (hi:i<(tys d).length):(tys d).getD i 0<18446744073709551616:=h.cd.get hi
noncomputable abbrev cwd (d:List af) (x:aS):Nat:=cw d (cI d) x
theorem Ok.MV {d:List af} (h:Ok d) (x:aS):cwd d x<18446744073709551616:=OM (by have:=eN (d:=d);have:=h.len;omega)
theorem OL {d:List af} (A:Acc d) (h64:d.length≤64) {x:aS} (hx:x∈cK d):cwd d x∈nY (fq d):=by
 obtain ⟨F,D⟩:=O5 A h64;obtain ⟨e,he⟩:=F.pre;rw [he];refine List.mem_append_left _ (List.mem_map.2 ⟨x,?_,rfl⟩);exact cO.2 hx
theorem Ok.ON {d:List af} (h:Ok d) {x:aS} (hx:x∈cK d):cwd d x∈tys d:=(sS (d:=d)).mem_iff.2 (OL h.acc h.len hx)
theorem Ok.U9 {d:List af} (h:Ok d) {x:aS} (hx:x∈cK d):((x,cwd d x):qV)∈bL d:=by
 refine (sU (d:=d)).2.mem_iff.2 (List.mem_map.2 ⟨cwd d x,OL h.acc h.len hx,?_⟩);have:Df d (cwd d x)=x:=by
  rw [KB h.acc h.len (Ln x),L3 h.acc h.len hx];rfl
 show (Df d (cwd d x),cwd d x)=_;rw [this]
noncomputable def nu (d:List af) (x:aS):Nat:=(bJ (fun c:ak=>c.Name==x) (ff d) 0).toNat
theorem Ok.iz {d:List af} (h:Ok d) {x:aS} (hx:x∈cK d):bJ (fun c:ak=>c.Name==x) (ff d) 0=(nu d x:Int)∧nu d x<(tys d).length∧(tys d).getD (nu d x) 0=cwd d x∧∃hn:nu d x<(ff d).length,(ff d)[nu d x].Name=x:=by
 have hmem:=h.U9 hx;obtain ⟨j,hj,e⟩:=vr (fun c:ak=>c.Name==x) (ff d) 0 ⟨qg (x,cwd d x),List.mem_map.2 ⟨_,hmem,rfl⟩,by simp [qg]⟩;have e':bJ (fun c:ak=>c.Name==x) (ff d) 0=(j:Int):=by
  have:=e.1;simpa using this
 have WR:nu d x=j:=by unfold nu;rw [e'];simp
 obtain ⟨_,c,hc,hcx⟩:=PO _ _ _ _ e';obtain ⟨p,hp,hpe⟩:=List.mem_iff_getElem.1 hmem;have hje:j<(bL d).length:=by simpa [ff] using hj
 rw [Nat.sub_zero,ff,List.getElem?_map,List.getElem?_eq_getElem hje] at hc;have hcn:(bL d)[j].1=x:=by
  have h1:c=qg (bL d)[j]:=(Option.some.inj hc).symm;rw [h1] at hcx;exact beq_iff_eq.1 hcx
 have hnd:=Hp h.acc h.len;have hjp:j=p:=by
  have hj':j<((bL d).map (·.1)).length:=by simpa using hje
  have hp':p<((bL d).map (·.1)).length:=by simpa using hp
  refine vz hnd hj' hp' ?_;rw [List.getElem_map,List.getElem_map,hcn,hpe]
 rw [WR];refine ⟨e',by rw [←cS];exact hj,?_,hj,by simpa using e.2.1⟩;subst hjp;show ((bL d).map (·.2)).getD j 0=_;rw [List.getD_eq_getElem?_getD,List.getElem?_map,List.getElem?_eq_getElem hje,hpe];rfl
theorem jt {d:List af} {t:af} (h:t∈d):t.Name∈cK d:=List.mem_map.2 ⟨t,h,rfl⟩
end Go.Proofs.YtmidjldjkbljjaaGreatDoor.cl
set_option linter.unusedVariables false
set_option linter.unusedSimpArgs false
set_option linter.unusedSectionVars false
namespace Go.Proofs.YtmidjldjkbljjaaGreatDoor.cl
open Go Go.AM
def upperB (c:UInt8):Bool:=decide (65≤c.toNat)&&decide (c.toNat≤90)
def jN (s:aS):Bool:=decide (1≤s.length)&&decide (s.length≤32)&& !dH (s.getD 0 0)&& !(s.getD 0 0).toNat==45&&s.all fun c=>dH c||c.toNat==45||upperB c
theorem c166 (c:UInt8):f166 (c.toNat:Int)=some (upperB c):=by
 refine e166 _ ?_;by_cases h:65≤c.toNat
 ·rw [cond_pos (by simp;omega)]
  simp only [upperB,h,decide_true,Bool.true_and]
  congr 1;rw [decide_eq_decide];omega
 ·rw [cond_neg (by simp;omega)];simp [upperB,h]
theorem Xj (c:UInt8):f160 (c.toNat:Int) true=some (dH c||c.toNat==45||upperB c):=by
 refine e160 _ _ ?_;rw [Sg,ah,c166,ah];cases dH c with
 |true=>rfl
 |false=>
  by_cases h:c.toNat=45
  ·rw [cond_false,cond_pos (by simp;omega)];simp [h]
  ·rw [cond_false,cond_neg (by simp;omega)]
   cases upperB c<;>simp [h]
theorem XJ (s:aS) (hl:s.length≤1073741824):∀(xs:aS) (i:Nat),s.drop i=xs→Bv s true i=some (xs.all fun c=>dH c||c.toNat==45||upperB c):=by
 intro xs
 induction xs with
 |nil=>intro i h;refine Eu _ _ _ ?_;rw [aQ h];rfl
 |cons x xs ih=>
  intro i h;refine Eu _ _ _ ?_;rw [aT h,cond_true,aM h,Xj,ah,aN h hl,ih (i+1) (az h),List.all_cons];cases (dH x||x.toNat==45||upperB x)<;>rfl
theorem c372 (s:aS):f372 s=some (jN s):=by
 refine e372 _ ?_;have:f140 s true=some (jN s):=by
  refine e140 _ _ ?_;by_cases h1:1≤s.length
  ·rw [cond_neg (by simp;omega)]
   by_cases h2:s.length≤32
   ·rw [cond_neg (by simp;omega),show (0:Int)=((0:Nat):Int) from rfl,cu (by omega),Sg,ah,cu (by omega),XJ s (by omega) s 0 rfl]
    have e0:s.getD 0 0=s[0]:=by rw [List.getD_eq_getElem?_getD,List.getElem?_eq_getElem (by omega)];rfl
    unfold jN;rw [e0];cases dH s[0] with
    |true=>simp [h1,h2]
    |false=>
     by_cases h3:s[0].toNat=45
     ·rw [cond_false,cond_pos (by simp;omega)];simp [h3]
     ·rw [cond_false,cond_neg (by simp;omega)];simp [h1,h2,h3]
   ·rw [cond_pos (by simp;omega)];simp [jN,h2]
  ·rw [cond_pos (by simp;omega)];simp [jN,h1]
 rw [this];rfl
theorem i387 (c:Int):f387 c=some (decide (65≤c)&&decide (c≤90)):=by
 refine e387 _ ?_;by_cases h:65≤c
 ·rw [cond_pos (by simpa using h)];simp [h]
 ·rw [cond_neg (by simpa using h)];simp [h]
def okF (c:UInt8):Bool:=dH c||c.toNat==45||upperB c
def Dp (p:Nat) (c:UInt8):Bool:=if p=0 then upperB c else okF c
def Jp:Nat→aS→Bool
 |_,[]=>true
 |p,c::l=>Dp p c&&Jp (p+1) l
theorem XK (s:aS):∀(xs:aS) (p:Nat),s.drop p=xs→s9 s p=some (Jp p xs):=by
 intro xs
 induction xs with
 |nil=>
  intro p h;refine LJ _ _ ?_;have:=dJ h;rw [cond_neg (by cases hb:Nat.blt p s.length with|false=>rfl|true=>simp [Nat.blt_eq] at hb;omega)];rfl
 |cons c xs ih=>
  intro p h;refine LJ _ _ ?_;have hp:=bN h;have iU:=aZ h;rw [cond_pos (by simp [Nat.blt_eq];omega),i387,ah,i161,ah];by_cases hc:c.toNat<128
  ·rw [decode_ascii iU hc]
   simp only [ih (p+1) (az h)];rw [Jp];have e1:(decide (65≤(c.toNat:Int))&&decide ((c.toNat:Int)≤90))=upperB c:=by
    unfold upperB;rw [Bool.eq_iff_iff];simp;omega
   have e2:(decide (48≤(c.toNat:Int))&&decide ((c.toNat:Int)≤57))=dH c:=by
    unfold dH;rw [Bool.eq_iff_iff];simp;omega
   rw [e1,e2];unfold Dp okF;cases hl:upperB c with
   |true=>simp
   |false=>
    rw [Bool.not_false,cond_true];by_cases h0:p=0
    ·subst h0;simp
    ·rw [cond_neg (by simp;omega),if_neg h0]
     cases hd:dH c with
     |true=>simp
     |false=>
      rw [Bool.not_false,cond_true];by_cases h45:c.toNat=45
      ·rw [cond_neg (by simp;omega)];simp [h45]
      ·rw [cond_pos (by simp;omega)];simp [h45]
  ·have hw:=yC iU (by omega)
   have e1:(decide (65≤((Utf8.decode ⟨s.toArray⟩ p).1:Int))&&decide (((Utf8.decode ⟨s.toArray⟩ p).1:Int)≤90))=false:=by simp;omega
   have e2:(decide (48≤((Utf8.decode ⟨s.toArray⟩ p).1:Int))&&decide (((Utf8.decode ⟨s.toArray⟩ p).1:Int)≤57))=false:=by simp;omega
   have e3:Dp p c=false:=by
    unfold Dp okF upperB dH;split<;>simp<;>omega
   rw [Jp,e3,Bool.false_and,e1,e2,Bool.not_false,cond_true];by_cases h0:p=0
   ·subst h0;rw [cond_pos (by simp)]
   ·rw [cond_neg (by simp;omega),cond_true,cond_pos (by simp;omega)]
theorem O9:∀(xs:aS) (p:Nat),0<p→Jp p xs=xs.all okF:=by
 intro xs
 induction xs with
 |nil=>intro p _;rfl
 |cons c xs ih=>
  intro p hp;rw [Jp,ih (p+1) (by omega),List.all_cons,Dp,if_neg (by omega)]
theorem i380 (s:aS):f380 s=some (jN s):=by
 refine e380 _ ?_;have:O2 s=some (jN s):=by
  refine Xx _ ?_;cases s with
  |nil=>rfl
  |cons c l=>
   rw [cond_neg (by simp;omega)];by_cases h2:(c::l).length≤32
   ·rw [cond_neg (by simp at h2⊢;omega)]
    have:=XK (c::l) (c::l) 0 rfl;rw [this,Jp,O9 _ _ (by omega)];refine congrArg some ?_;unfold jN Dp;simp only [if_true,List.getD_cons_zero,List.all_cons];have h1:decide (1≤(c::l).length)=true:=by simp
    have Cf:decide ((c::l).length≤32)=true:=by simpa using h2
    rw [h1,Cf];show _=(_&&((dH c||c.toNat==45||upperB c)&&l.all okF))
    cases hl:upperB c with
    |true=>
     have hd:dH c=false:=by
      unfold upperB at hl;unfold dH;simp at hl⊢;omega
     have h45:(c.toNat==45)=false:=by
      unfold upperB at hl;simp at hl⊢;omega
     simp [hd,h45]
    |false=>cases dH c<;>cases (c.toNat==45)<;>simp
   ·rw [cond_pos (by simp at h2⊢;omega)]
    have:decide ((c::l).length≤32)=false:=by simpa using h2
    unfold jN;rw [this];simp
 rw [this];rfl
def Fz (d:List af):Prop:=∀t∈d,t.bz.length≤1000
def val (t:af) (F:aS):Option aS:=(t.bz.find? fun x=>x.ct==F).map (·.Value)
theorem h373 (t:af) (F:aS) (hl:t.bz.length≤1000):∀(xs:List aq) (i:Nat),t.bz.drop i=xs→
  FH F i t=some (match xs.find? fun x=>x.ct==F with|some x=>(x.Value,true)|none=>([],false)):=by
 intro xs
 induction xs with
 |nil=>intro i h;refine QF _ _ _ ?_;rw [aQ h];rfl
 |cons x xs ih=>
  intro i h;refine QF _ _ _ ?_;rw [aT h,cond_true,aM h,aM h,aN h (by omega),ih (i+1) (az h),List.find?_cons];cases x.ct==F<;>rfl
theorem Xp (t:af) (F:aS) (hl:t.bz.length≤1000):f373 t F=some (match val t F with|some v=>(v,true)|none=>([],false)):=by
 refine e373 _ _ ((h373 t F hl t.bz 0 rfl).trans ?_);rw [val];cases t.bz.find? fun x=>x.ct==F<;>rfl
theorem BX {t:af} {F v:aS} (h:val t F=some v):∃x∈t.bz,x.ct=F∧x.Value=v:=by
 unfold val at h;obtain ⟨x,hx,rfl⟩:=Option.map_eq_some_iff.1 h;exact ⟨x,List.mem_of_find?_eq_some hx,by simpa using List.find?_some hx,rfl⟩
theorem IC {t:af} {F:aS} (h:val t F=none):∀x∈t.bz,x.ct≠F:=by
 unfold val at h;rw [Option.map_eq_none_iff,List.find?_eq_none] at h;intro x hx e;exact h x hx (by simpa using e)
theorem BV {t:af} {F:aS}:(val t F).isSome=true↔∃x∈t.bz,x.ct=F:=by
 cases h:val t F with
 |none=>
  have:=IC h;simp only [Option.isSome_none,Bool.false_eq_true,false_iff]
  rintro ⟨x,hx,e⟩;exact this x hx e
 |some v=>
  obtain ⟨x,hx,e,_⟩:=BX h;simp only [Option.isSome_some,true_iff];exact ⟨x,hx,e⟩
abbrev fns (t:af):List aS:=t.bz.map (·.ct)
theorem BW {t:af} (hn:(fns t).Nodup) {x:aq} (hx:x∈t.bz):val t x.ct=some x.Value:=by
 cases h:val t x.ct with
 |none=>exact absurd rfl (IC h x hx)
 |some v=>
  obtain ⟨y,hy,e1,e2⟩:=BX h;obtain ⟨i,hi,rfl⟩:=List.mem_iff_getElem.1 hx;obtain ⟨k,hk,rfl⟩:=List.mem_iff_getElem.1 hy;have hi':i<(fns t).length:=by simpa using hi
  have hk':k<(fns t).length:=by simpa using hk
  have h':=List.pairwise_iff_getElem.1 hn;have:k=i:=by
   rcases Nat.lt_trichotomy k i with h1|h1|h1
   ·exact absurd (by simpa using e1) (h' k i hk' hi' h1)
   ·exact h1
   ·exact absurd (by simpa using e1.symm) (h' i k hi' hk' h1)
  subst this;rw [e2]
def Ah (d:List af):List aS:=d.flatMap fns
def dM (d:List af):List aS:=eU (Ah d)
theorem S0 {d:List af} {F:aS}:F∈dM d↔∃t∈d,∃x∈t.bz,x.ct=F:=by
 unfold dM Ah;rw [cO,List.mem_flatMap];simp only [List.mem_map]
theorem Sv {d:List af} (hf:Fz d):(Ah d).length≤1000 *d.length:=by
 induction d with
 |nil=>simp [Ah]
 |cons t d ih=>
  have h1:=hf t (by simp);have h2:=ih fun u hu=>hf u (by simp [hu])
  unfold Ah at h2⊢;rw [List.flatMap_cons,List.length_append,List.length_cons,List.length_map];omega
theorem XT {d:List af} {i:Nat} {t:af} (hi:d[i]? =some t) (hl:t.bz.length≤1000) {r:List aS}:∀(xs:List aq) (k:Nat) (o:List aS),t.bz.drop k=xs→o.length≤1073740000+k→
  BB d ((xs.map (·.ct)).foldl (fun o s=>jP s o) o) (i+1:Nat)=some r→i<1000000→FE d o i k=some r:=by
 intro xs
 induction xs with
 |nil=>
  intro k o h ho hr hi2;refine Qq _ _ _ _ ?_;rw [fI hi,aQ h,cond_false,bl (by omega)];exact hr
 |cons x xs ih=>
  intro k o h ho hr hi2;refine Qq _ _ _ _ ?_;have hk:=bN h;have hp:=gF x.ct o;rw [fI hi,aT h,cond_true,fI hi,aM h,WK _ _ (by omega),ah,aN h (by omega)];exact ih (k+1) _ (az h) (by omega) hr hi2
theorem h345 {d:List af} (hl:d.length≤1000) (hf:Fz d):∀(xs:List af) (i:Nat) (o:List aS),d.drop i=xs→o.length≤1000 *i→BB d o i=some ((Ah xs).foldl (fun o s=>jP s o) o):=by
 intro xs
 induction xs with
 |nil=>intro i o h ho;refine Qp _ _ _ ?_;rw [aQ h];rfl
 |cons t xs ih=>
  intro i o h ho;refine Qp _ _ _ ?_;have hi:=bN h;have ht:=hf t (List.mem_of_getElem? (aZ h));rw [aT h,cond_true];refine XT (aZ h) ht t.bz 0 o rfl (by omega) ?_ (by omega);have hlen:(((fns t)).foldl (fun o s=>jP s o) o).length≤o.length+(fns t).length:=by
   have:∀(l o:List aS),(l.foldl (fun o s=>jP s o) o).length≤o.length+l.length:=by
    intro l
    induction l with
    |nil=>intro o;simp
    |cons a l ih=>
     intro o;have h1:=gF a o;have h2:=ih (jP a o);rw [List.foldl_cons,List.length_cons];omega
   exact this _ _
  rw [List.length_map] at hlen;rw [ih (i+1) ((fns t).foldl (fun o s=>jP s o) o) (az h) (by omega)];unfold Ah;rw [List.flatMap_cons,List.foldl_append]
theorem UT {d:List af} (hl:d.length≤1000) (hf:Fz d):f345 d=some (dM d):=e345 _ (h345 hl hf d 0 [] rfl (by simp))
def Ca (ns:List aS):List aS→List aq→Int
 |_,[]=>0
 |seen,x::l=>if jN x.ct=false then 1 else if x.ct∈seen then 4 else if x.Value∈ns then Ca ns (seen++[x.ct]) l else 5
def fG (ns:List aS):List af→Int
 |[]=>0
 |t::d=>if Ca ns [] t.bz=0 then fG ns d else Ca ns [] t.bz
theorem O6 (ns:List aS):∀(l:List aq) (seen:List aS),Ca ns seen l=0↔(∀x∈l,jN x.ct=true∧x.Value∈ns)∧(l.map (·.ct)).Nodup∧∀x∈l,x.ct∉seen:=by
 intro l
 induction l with
 |nil=>intro seen;simp [Ca]
 |cons x l ih=>
  intro seen;unfold Ca;cases h1:jN x.ct with
  |false=>simp [h1]
  |true=>
   rw [if_neg (by simp)];by_cases h2:x.ct∈seen
   ·rw [if_pos h2];simp [h2]
   ·rw [if_neg h2]
    by_cases h3:x.Value∈ns
    ·rw [if_pos h3,ih]
     constructor
     ·rintro ⟨a,b,c⟩
      refine ⟨fun y hy=> ?_,?_,fun y hy=> ?_⟩
      ·rcases List.mem_cons.1 hy with rfl|hy
       ·exact ⟨h1,h3⟩
       ·exact a y hy
      ·rw [List.map_cons,List.nodup_cons]
       refine ⟨fun hm=> ?_,b⟩;obtain ⟨y,hy,e⟩:=List.mem_map.1 hm;exact c y hy (by rw [e];simp)
      ·rcases List.mem_cons.1 hy with rfl|hy
       ·exact h2
       ·exact fun hs=>c y hy (by simp [hs])
     ·rintro ⟨a,b,c⟩
      rw [List.map_cons,List.nodup_cons] at b;refine ⟨fun y hy=>a y (by simp [hy]),b.2,fun y hy hs=> ?_⟩;rcases List.mem_append.1 hs with hs|hs
      ·exact c y (by simp [hy]) hs
      ·exact b.1 (List.mem_map.2 ⟨y,hy,by simpa using hs⟩)
    ·rw [if_neg h3]
     constructor
     ·intro h;cases h
     ·rintro ⟨a,_⟩;exact absurd (a x (by simp)).2 h3
theorem nw (ns:List aS):∀(d:List af),fG ns d=0↔∀t∈d,(∀x∈t.bz,jN x.ct=true∧x.Value∈ns)∧(fns t).Nodup:=by
 intro d
 induction d with
 |nil=>simp [fG]
 |cons t d ih=>
  unfold fG;have hk:=O6 ns t.bz [];by_cases h:Ca ns [] t.bz=0
  ·rw [if_pos h,ih]
   obtain ⟨a,b,_⟩:=hk.1 h;constructor
   ·intro hh u hu
    rcases List.mem_cons.1 hu with rfl|hu
    ·exact ⟨a,b⟩
    ·exact hh u hu
   ·exact fun hh u hu=>hh u (by simp [hu])
  ·rw [if_neg h]
   constructor
   ·intro hh;exact absurd hh h
   ·intro hh
    obtain ⟨a,b⟩:=hh t (by simp);exact absurd (hk.2 ⟨a,b,fun x _=>by simp⟩) h
theorem XV {d:List af} {all:List aS} (hall:all.length≤1073741824) {i k:Nat} {l:List aq} (hl:l.length≤1000) (hk:k<l.length) {r:Int}
  (hr:(if l[k].Value∈all then BD d all i l (k+1:Nat) else some 5)=some r):∀(n m:Nat),k-m=n→m≤k→
  zM d all i l k m=some (if l[k].ct∈((l.take k).drop m).map (·.ct) then 4 else r):=by
 intro n
 induction n with
 |zero=>
  intro m hm hle;have:m=k:=by omega
  subst this;refine LU _ _ _ _ _ _ ?_;rw [cond_neg (by simp),cu hk,OF _ _ hall,ah];have e:(l.take m).drop m=[]:=by rw [List.drop_eq_nil_iff,List.length_take];omega
  rw [e,if_neg (by simp),←hr,bl (by omega)];by_cases h:l[m].Value∈all
  ·rw [if_pos h,cond_neg (by simpa using h)]
  ·rw [if_neg h,cond_pos (by simpa using h)]
 |succ n ih=>
  intro m hm hle;have hmk:m<k:=by omega
  refine LU _ _ _ _ _ _ ?_;rw [cond_pos (by simp;omega),cu (by omega),cu hk,bl (by omega),ih (m+1) (by omega) (by omega)];have e:(l.take k).drop m=l[m]::(l.take k).drop (m+1):=by
   rw [List.drop_eq_getElem_cons (by rw [List.length_take];omega),List.getElem_take]
  rw [e,List.map_cons];by_cases h:l[m].ct=l[k].ct
  ·rw [cond_pos (by simpa using h),if_pos (by rw [h];simp)]
  ·rw [cond_neg (by simpa using h)]
   simp only [List.mem_cons,Ne.symm h,false_or]
theorem XU {d:List af} {all:List aS} (hall:all.length≤1073741824) {i:Nat} (hi:i<1000000) {l:List aq} (hl:l.length≤1000) {r:Int} (hr:BC d all (i+1:Nat)=some r):∀(xs:List aq) (k:Nat),l.drop k=xs→
  BD d all i l k=some (if Ca all ((l.take k).map (·.ct)) xs=0 then r else Ca all ((l.take k).map (·.ct)) xs):=by
 intro xs
 induction xs with
 |nil=>
  intro k h;refine Qt _ _ _ _ _ ?_;rw [aQ h,cond_false,bl (by omega),hr];rfl
 |cons x xs ih=>
  intro k h;refine Qt _ _ _ _ _ ?_;have hk:=bN h;have hx:l[k]=x:=(List.getElem?_eq_some_iff.1 (aZ h)).2;have htk:(l.take k).map (·.ct)++[x.ct]=(l.take (k+1)).map (·.ct):=by
   rw [List.take_add_one,aZ h];simp
  rw [aT h,cond_true,aM h,c372,ah];unfold Ca;cases h1:jN x.ct with
  |false=>rfl
  |true=>
   rw [Bool.not_true,cond_false];rw [if_neg (by simp:¬(true=false)),htk];have hs:=ih (k+1) (az h)
   rw [show (0:Int)=((0:Nat):Int) from rfl,XV hall hl hk (r:=if x.Value∈all then (if Ca all ((l.take (k+1)).map (·.ct)) xs=0 then r else Ca all ((l.take (k+1)).map (·.ct)) xs) else 5) (by
    rw [hx];by_cases h3:x.Value∈all
    ·rw [if_pos h3,if_pos h3];exact hs
    ·rw [if_neg h3,if_neg h3]) _ 0 rfl (by omega),List.drop_zero,hx]
   by_cases h2:x.ct∈(l.take k).map (·.ct)
   ·rw [if_pos h2,if_pos h2];rfl
   ·rw [if_neg h2,if_neg h2]
    by_cases h3:x.Value∈all
    ·rw [if_pos h3,if_pos h3];rfl
    ·rw [if_neg h3,if_neg h3];rfl
theorem h346 {d:List af} (hd:d.length≤1000) (hf:Fz d) {all:List aS} (hall:all.length≤1073741824):∀(xs:List af) (i:Nat),d.drop i=xs→BC d all i=some (fG all xs):=by
 intro xs
 induction xs with
 |nil=>intro i h;refine Qr _ _ _ ?_;rw [aQ h];rfl
 |cons t xs ih=>
  intro i h;refine Qr _ _ _ ?_;have hi:=bN h;have ht:=hf t (List.mem_of_getElem? (aZ h));rw [aT h,cond_true,aM h,show (0:Int)=((0:Nat):Int) from rfl,XU hall (by omega) ht (ih (i+1) (az h)) t.bz 0 rfl];rfl
theorem M7 {ns ms:List aS} (h:∀x,x∈ns↔x∈ms):∀(l:List aq) (seen:List aS),Ca ns seen l=Ca ms seen l:=by
 intro l
 induction l with
 |nil=>intro _;rfl
 |cons x l ih=>
  intro seen;unfold Ca;rw [ih];simp only [h x.Value]
theorem Gs {ns ms:List aS} (h:∀x,x∈ns↔x∈ms):∀(d:List af),fG ns d=fG ms d:=by
 intro d
 induction d with
 |nil=>rfl
 |cons t d ih=>unfold fG;rw [ih,M7 h]
theorem c346 {d:List af} (hd:d.length≤1000) (hf:Fz d):f346 d=some (fG (cK d) d):=by
 refine e346 _ ?_;have hal:=gK (cK d);rw [List.length_map] at hal;rw [c52 d (by omega),ah,show (0:Int)=((0:Nat):Int) from rfl,h346 hd hf (by omega) d 0 rfl,Gs (fun x=>cO)]
end Go.Proofs.YtmidjldjkbljjaaGreatDoor.cl
