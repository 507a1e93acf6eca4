/- Accepted declarations. -/
import Derived.Test.YtfoddgpndoeeaaaGreatDoorClNe
import Derived.Test.YtfoddgpndoeeaaaGreatDoorClPd
set_option linter.unusedVariables false
set_option linter.unusedSimpArgs false
set_option linter.unusedSectionVars false
namespace Go.Proofs.YtfoddgpndoeeaaaGreatDoor.cl
open Go Go.AM
theorem Nc {d:List af} (A:Acc d) (h64:d.length≤64):Fm (jr d) (qA (jr d))∧∀w∈qA (jr d),Dn d w:=by
 have hlen:(jr d).length≤256:=by have:=uk (d:=d);omega
 obtain ⟨F,_,_⟩:=ur (nN A) yV hlen
 exact ⟨F,F.gen (Dn d) (fun c hc=>by
  obtain ⟨x,_,rfl⟩:=List.mem_map.1 hc
  exact JW x) (fun a b=>MS)⟩
theorem FZ {d:List af} (A:Acc d) (h64:d.length≤64):((bz d).map (·.1)).Nodup:=by
 obtain ⟨F,D⟩:=Nc A h64;have hp:=(rU (d:=d)).2.map (·.1);rw [List.map_map] at hp;refine hp.nodup_iff.2 (BU F.nd fun x hx y hy h=> ?_);exact Kp A h64 (EA F (s6 h64) x hx) (EA F (s6 h64) y hy) (F.nz x hx) (F.nz y hy) (D x hx) (D y hy) h
theorem OO {α:Type} {l:List α} (h:l.Nodup) {i k:Nat} (hi:i<l.length) (hk:k<l.length) (e:l[i]=l[k]):i=k:=by
 have h':=List.pairwise_iff_getElem.1 h;rcases Nat.lt_trichotomy i k with h1|h1|h1
 ·exact absurd e (h' i k hi hk h1)
 ·exact h1
 ·exact absurd e.symm (h' k i hk hi h1)
structure Ok (d:List af):Prop where
 z:Sz d
 acc:Acc d
 len:d.length≤64
 le:(qA (jr d)).length≤256
noncomputable def tys (d:List af):List Nat:=(bz d).map (·.2)
noncomputable def jK (d:List af):List aB:=(bz d).map AL
theorem gF {d:List af}:(jK d).length=(tys d).length:=by simp [tys,jK]
theorem Ok.Qj {d:List af} (h:Ok d):Up (tys d):=cl.Qj h.acc h.len h.le
theorem Ok.cd {d:List af} (h:Ok d):Cd (jK d) (tys d):=PT h.acc h.len h.le
theorem Ok.bG {d:List af} (h:Ok d):(tys d).length≤256:=by
 have:=(rT (d:=d)).length_eq;rw [tys,this];exact h.le
theorem Ok.lt {d:List af} (h:Ok d) {i:Nat} (hi:i<(tys d).length):(tys d).getD i 0<18446744073709551616:=h.cd.get hi
noncomputable abbrev cwd (d:List af) (x:aR):Nat:=cw d (cI d) x
theorem Ok.MP {d:List af} (h:Ok d) (x:aR):cwd d x<18446744073709551616:=MO (by have:=fq (d:=d);have:=h.len;omega)
theorem MN {d:List af} (A:Acc d) (h64:d.length≤64) {x:aR} (hx:x∈cU d):cwd d x∈qA (jr d):=by
 obtain ⟨F,D⟩:=Nc A h64;obtain ⟨e,he⟩:=F.pre;rw [he];refine List.mem_append_left _ (List.mem_map.2 ⟨x,?_,rfl⟩);exact dr.2 hx
theorem Ok.UD {d:List af} (h:Ok d) {x:aR} (hx:x∈cU d):cwd d x∈tys d:=(rT (d:=d)).mem_iff.2 (MN h.acc h.len hx)
theorem Ok.Sy {d:List af} (h:Ok d) {x:aR} (hx:x∈cU d):((x,cwd d x):rO)∈bz d:=by
 refine (rU (d:=d)).2.mem_iff.2 (List.mem_map.2 ⟨cwd d x,MN h.acc h.len hx,?_⟩);have:BS d (cwd d x)=x:=by
  rw [Jc h.acc h.len (JW x),Kl h.acc h.len hx];rfl
 show (BS d (cwd d x),cwd d x)=_;rw [this]
noncomputable def nu (d:List af) (x:aR):Nat:=(bX (fun c:aB=>c.Name==x) (jK d) 0).toNat
theorem Ok.uK {d:List af} (h:Ok d) {x:aR} (hx:x∈cU d):bX (fun c:aB=>c.Name==x) (jK d) 0=(nu d x:Int)∧nu d x<(tys d).length∧(tys d).getD (nu d x) 0=cwd d x∧∃hn:nu d x<(jK d).length,(jK d)[nu d x].Name=x:=by
 have hmem:=h.Sy hx;obtain ⟨j,hj,e⟩:=C6 (fun c:aB=>c.Name==x) (jK d) 0 ⟨AL (x,cwd d x),List.mem_map.2 ⟨_,hmem,rfl⟩,by simp [AL]⟩;have e':bX (fun c:aB=>c.Name==x) (jK d) 0=(j:Int):=by
  have:=e.1;simpa using this
 have Ub:nu d x=j:=by unfold nu;rw [e'];simp
 obtain ⟨_,c,hc,hcx⟩:=NP _ _ _ _ e';obtain ⟨p,hp,hpe⟩:=List.mem_iff_getElem.1 hmem;have hje:j<(bz d).length:=by simpa [jK] using hj
 rw [Nat.sub_zero,jK,List.getElem?_map,List.getElem?_eq_getElem hje] at hc;have hcn:(bz d)[j].1=x:=by
  have h1:c=AL (bz d)[j]:=(Option.some.inj hc).symm;rw [h1] at hcx;exact beq_iff_eq.1 hcx
 have hnd:=FZ h.acc h.len;have hjp:j=p:=by
  have hj':j<((bz d).map (·.1)).length:=by simpa using hje
  have hp':p<((bz d).map (·.1)).length:=by simpa using hp
  refine OO hnd hj' hp' ?_;rw [List.getElem_map,List.getElem_map,hcn,hpe]
 rw [Ub];refine ⟨e',by rw [←gF];exact hj,?_,hj,by simpa using e.2.1⟩;subst hjp;show ((bz d).map (·.2)).getD j 0=_;rw [List.getD_eq_getElem?_getD,List.getElem?_map,List.getElem?_eq_getElem hje,hpe];rfl
theorem oc {d:List af} {t:af} (h:t∈d):t.Name∈cU d:=List.mem_map.2 ⟨t,h,rfl⟩
end Go.Proofs.YtfoddgpndoeeaaaGreatDoor.cl
set_option linter.unusedVariables false
set_option linter.unusedSimpArgs false
set_option linter.unusedSectionVars false
namespace Go.Proofs.YtfoddgpndoeeaaaGreatDoor.cl
open Go Go.AM
def upperB (c:UInt8):Bool:=decide (65≤c.toNat)&&decide (c.toNat≤90)
def oV (s:aR):Bool:=decide (1≤s.length)&&decide (s.length≤32)&& !eZ (s.getD 0 0)&& !(s.getD 0 0).toNat==45&&s.all fun c=>eZ c||c.toNat==45||upperB c
theorem i387 (c:Int):f387 c=some (decide (65≤c)&&decide (c≤90)):=by
 refine e387 _ ?_;by_cases h:65≤c
 ·rw [cond_pos (by simpa using h)];simp [h]
 ·rw [cond_neg (by simpa using h)];simp [h]
def okF (c:UInt8):Bool:=eZ c||c.toNat==45||upperB c
def B4 (p:Nat) (c:UInt8):Bool:=if p=0 then upperB c else okF c
def HL:Nat→aR→Bool
 |_,[]=>true
 |p,c::l=>B4 p c&&HL (p+1) l
theorem UW (s:aR):∀(xs:aR) (p:Nat),s.drop p=xs→se s p=some (HL p xs):=by
 intro xs
 induction xs with
 |nil=>
  intro p h;refine Kg _ _ ?_;have:=eG h;rw [cond_neg (by cases hb:Nat.blt p s.length with|false=>rfl|true=>simp [Nat.blt_eq] at hb;omega)];rfl
 |cons c xs ih=>
  intro p h;refine Kg _ _ ?_;have hp:=cW h;have iE:=bU h;rw [cond_pos (by simp [Nat.blt_eq];omega),i387,aj,i161,aj];by_cases hc:c.toNat<128
  ·rw [decode_ascii iE hc]
   simp only [ih (p+1) (bf h)];rw [HL];have e1:(decide (65≤(c.toNat:Int))&&decide ((c.toNat:Int)≤90))=upperB c:=by
    unfold upperB;rw [Bool.eq_iff_iff];simp;omega
   have e2:(decide (48≤(c.toNat:Int))&&decide ((c.toNat:Int)≤57))=eZ c:=by
    unfold eZ;rw [Bool.eq_iff_iff];simp;omega
   rw [e1,e2];unfold B4 okF;cases hl:upperB c with
   |true=>simp
   |false=>
    rw [Bool.not_false,cond_true];by_cases h0:p=0
    ·subst h0;simp
    ·rw [cond_neg (by simp;omega),if_neg h0]
     cases hd:eZ c with
     |true=>simp
     |false=>
      rw [Bool.not_false,cond_true];by_cases h45:c.toNat=45
      ·rw [cond_neg (by simp;omega)];simp [h45]
      ·rw [cond_pos (by simp;omega)];simp [h45]
  ·have hw:=wZ iE (by omega)
   have e1:(decide (65≤((Utf8.decode ⟨s.toArray⟩ p).1:Int))&&decide (((Utf8.decode ⟨s.toArray⟩ p).1:Int)≤90))=false:=by simp;omega
   have e2:(decide (48≤((Utf8.decode ⟨s.toArray⟩ p).1:Int))&&decide (((Utf8.decode ⟨s.toArray⟩ p).1:Int)≤57))=false:=by simp;omega
   have e3:B4 p c=false:=by
    unfold B4 okF upperB eZ;split<;>simp<;>omega
   rw [HL,e3,Bool.false_and,e1,e2,Bool.not_false,cond_true];by_cases h0:p=0
   ·subst h0;rw [cond_pos (by simp)]
   ·rw [cond_neg (by simp;omega),cond_true,cond_pos (by simp;omega)]
theorem Nj:∀(xs:aR) (p:Nat),0<p→HL p xs=xs.all okF:=by
 intro xs
 induction xs with
 |nil=>intro p _;rfl
 |cons c xs ih=>
  intro p hp;rw [HL,ih (p+1) (by omega),List.all_cons,B4,if_neg (by omega)]
theorem i380 (s:aR):f380 s=some (oV s):=by
 refine e380 _ ?_;have:M7 s=some (oV s):=by
  refine UK _ ?_;cases s with
  |nil=>rfl
  |cons c l=>
   rw [cond_neg (by simp;omega)];by_cases h2:(c::l).length≤32
   ·rw [cond_neg (by simp at h2⊢;omega)]
    have:=UW (c::l) (c::l) 0 rfl;rw [this,HL,Nj _ _ (by omega)];refine congrArg some ?_;unfold oV B4;simp only [if_true,List.getD_cons_zero,List.all_cons];have h1:decide (1≤(c::l).length)=true:=by simp
    have FA:decide ((c::l).length≤32)=true:=by simpa using h2
    rw [h1,FA];show _=(_&&((eZ c||c.toNat==45||upperB c)&&l.all okF))
    cases hl:upperB c with
    |true=>
     have hd:eZ c=false:=by
      unfold upperB at hl;unfold eZ;simp at hl⊢;omega
     have h45:(c.toNat==45)=false:=by
      unfold upperB at hl;simp at hl⊢;omega
     simp [hd,h45]
    |false=>cases eZ c<;>cases (c.toNat==45)<;>simp
   ·rw [cond_pos (by simp at h2⊢;omega)]
    have:decide ((c::l).length≤32)=false:=by simpa using h2
    unfold oV;rw [this];simp
 rw [this];rfl
def Fz (d:List af):Prop:=∀t∈d,t.bT.length≤1000
def val (t:af) (F:aR):Option aR:=(t.bT.find? fun x=>x.dw==F).map (·.Value)
theorem GR {t:af} {F v:aR} (h:val t F=some v):∃x∈t.bT,x.dw=F∧x.Value=v:=by
 unfold val at h;obtain ⟨x,hx,rfl⟩:=Option.map_eq_some_iff.1 h;exact ⟨x,List.mem_of_find?_eq_some hx,by simpa using List.find?_some hx,rfl⟩
theorem Pd {t:af} {F:aR} (h:val t F=none):∀x∈t.bT,x.dw≠F:=by
 unfold val at h;rw [Option.map_eq_none_iff,List.find?_eq_none] at h;intro x hx e;exact h x hx (by simpa using e)
theorem JD {t:af} {F:aR}:(val t F).isSome=true↔∃x∈t.bT,x.dw=F:=by
 cases h:val t F with
 |none=>
  have:=Pd h;simp only [Option.isSome_none,Bool.false_eq_true,false_iff]
  rintro ⟨x,hx,e⟩;exact this x hx e
 |some v=>
  obtain ⟨x,hx,e,_⟩:=GR h;simp only [Option.isSome_some,true_iff];exact ⟨x,hx,e⟩
abbrev fns (t:af):List aR:=t.bT.map (·.dw)
def Rk (d:List af):List aR:=d.flatMap fns
def iZ (d:List af):List aR:=gw (Rk d)
def K5 (ns:List aR):List aR→List ah→Int
 |_,[]=>0
 |seen,x::l=>if oV x.dw=false then 1 else if x.dw∈seen then 4 else if x.Value∈ns then K5 ns (seen++[x.dw]) l else 5
def iO (ns:List aR):List af→Int
 |[]=>0
 |t::d=>if K5 ns [] t.bT=0 then iO ns d else K5 ns [] t.bT
theorem Nd (ns:List aR):∀(l:List ah) (seen:List aR),K5 ns seen l=0↔(∀x∈l,oV x.dw=true∧x.Value∈ns)∧(l.map (·.dw)).Nodup∧∀x∈l,x.dw∉seen:=by
 intro l
 induction l with
 |nil=>intro seen;simp [K5]
 |cons x l ih=>
  intro seen;unfold K5;cases h1:oV x.dw with
  |false=>simp [h1]
  |true=>
   rw [if_neg (by simp)];by_cases h2:x.dw∈seen
   ·rw [if_pos h2];simp [h2]
   ·rw [if_neg h2]
    by_cases h3:x.Value∈ns
    ·rw [if_pos h3,ih]
     constructor
     ·rintro ⟨a,b,c⟩
      refine ⟨fun y hy=> ?_,?_,fun y hy=> ?_⟩
      ·rcases List.mem_cons.1 hy with rfl|hy
       ·exact ⟨h1,h3⟩
       ·exact a y hy
      ·rw [List.map_cons,List.nodup_cons]
       refine ⟨fun hm=> ?_,b⟩;obtain ⟨y,hy,e⟩:=List.mem_map.1 hm;exact c y hy (by rw [e];simp)
      ·rcases List.mem_cons.1 hy with rfl|hy
       ·exact h2
       ·exact fun hs=>c y hy (by simp [hs])
     ·rintro ⟨a,b,c⟩
      rw [List.map_cons,List.nodup_cons] at b;refine ⟨fun y hy=>a y (by simp [hy]),b.2,fun y hy hs=> ?_⟩;rcases List.mem_append.1 hs with hs|hs
      ·exact c y (by simp [hy]) hs
      ·exact b.1 (List.mem_map.2 ⟨y,hy,by simpa using hs⟩)
    ·rw [if_neg h3]
     constructor
     ·intro h;cases h
     ·rintro ⟨a,_⟩;exact absurd (a x (by simp)).2 h3
theorem y5 (ns:List aR):∀(d:List af),iO ns d=0↔∀t∈d,(∀x∈t.bT,oV x.dw=true∧x.Value∈ns)∧(fns t).Nodup:=by
 intro d
 induction d with
 |nil=>simp [iO]
 |cons t d ih=>
  unfold iO;have hk:=Nd ns t.bT [];by_cases h:K5 ns [] t.bT=0
  ·rw [if_pos h,ih]
   obtain ⟨a,b,_⟩:=hk.1 h;constructor
   ·intro hh u hu
    rcases List.mem_cons.1 hu with rfl|hu
    ·exact ⟨a,b⟩
    ·exact hh u hu
   ·exact fun hh u hu=>hh u (by simp [hu])
  ·rw [if_neg h]
   constructor
   ·intro hh;exact absurd hh h
   ·intro hh
    obtain ⟨a,b⟩:=hh t (by simp);exact absurd (hk.2 ⟨a,b,fun x _=>by simp⟩) h
end Go.Proofs.YtfoddgpndoeeaaaGreatDoor.cl
