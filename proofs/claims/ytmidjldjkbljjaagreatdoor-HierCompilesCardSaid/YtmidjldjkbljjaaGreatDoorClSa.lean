/- Accepted declarations. -/
import Derived.Test.YtmidjldjkbljjaaGreatDoorClNe
import Derived.Test.YtmidjldjkbljjaaGreatDoorClPd
set_option linter.unusedVariables false
set_option linter.unusedSimpArgs false
set_option linter.unusedSectionVars false
namespace Go.Proofs.YtmidjldjkbljjaaGreatDoor.cl
open Go Go.AM
theorem o69 {x:Nat} (hx:x<18446744073709551616):f69 (x:Int)=some ((c4 64 x:Nat):Int):=by
 obtain ⟨p1,p2,p3,p4,p5⟩:=pop.Tr hx;obtain ⟨k1,k2,k3⟩:=pop.Bj p5;refine e69 _ ?_;rw [aV (by decide),aV (by decide),aV (by decide),aV (by decide),aV (by decide),aV (by decide)];rw [pop.t1 hx p2,pop.t2 p2 p3,pop.t3 p4,pop.t48 k1,pop.t416 k2,pop.t432 (by rw [←k3];omega),←k3,pop.t5 p5,p1]
theorem o30 {w:Nat} (hw:w<18446744073709551616):f30 (e1 w)=some ((c4 64 w:Nat):Int):=by
 refine e30 _ ?_;by_cases h0:w=0
 ·subst h0
  show tC 0 [] 0 0=some 0;refine Bt _ _ _ _ ?_;rfl
 ·have e:e1 w=[(w:Int)]:=by unfold e1;rw [if_neg h0]
  have hle:=pop.My 64 w;rw [e];refine Bt _ _ _ _ ?_;rw [cond_pos (by simp),show (0:Int)=((0:Nat):Int) from rfl,dQ (x:=(w:Int)) (by simp),o69 hw,ah];refine Bt _ _ _ _ ?_;rw [bh (by omega),cond_neg (by simp),eC (by omega) (by omega)];simp
theorem BO {w v:Nat} (hw:w<18446744073709551616) (hv:v<18446744073709551616):f31 (e1 w) (e1 v)=some (decide (w=v)):=by
 refine e31 _ _ ?_;rw [Wv hw hv,ah,Wv hv hw,ah];by_cases h:w=v
 ·subst h;rw [qH];simp
 ·cases h1:sub w v with
  |false=>simp [h]
  |true=>
   cases h2:sub v w with
   |false=>simp [h]
   |true=>exact absurd (rK h1 h2) h
theorem QM {d:List af} (A:Acc d) (h64:d.length≤64):Fm (fI d) (qi (fI d))∧∀w∈qi (fI d),Dn d w:=by
 have hlen:(fI d).length≤256:=by have:=tQ (d:=d);omega
 obtain ⟨F,_,_⟩:=sG (nj A) x6 hlen
 exact ⟨F,F.gen (Dn d) (fun c hc=>by
  obtain ⟨x,_,rfl⟩:=List.mem_map.1 hc
  exact ME x) (fun a b=>Qr)⟩
theorem zP {d:List af} (A:Acc d) (h64:d.length≤64):((bK d).map (·.1)).Nodup:=by
 obtain ⟨F,D⟩:=QM A h64;have hp:=(tT (d:=d)).2.map (·.1);rw [List.map_map] at hp;refine hp.nodup_iff.2 (Ep F.nd fun x hx y hy h=> ?_);exact Ny A h64 (DO F (pR h64) x hx) (DO F (pR h64) y hy) (F.nz x hx) (F.nz y hy) (D x hx) (D y hy) h
theorem UG {d:List af}:((bK d).map qJ).map (·.Name)=(bK d).map (·.1):=by
 rw [List.map_map];rfl
theorem IS {α:Type} {l:List α} (h:l.Nodup) {i k:Nat} (hi:i<l.length) (hk:k<l.length) (e:l[i]=l[k]):i=k:=by
 have h':=List.pairwise_iff_getElem.1 h;rcases Nat.lt_trichotomy i k with h1|h1|h1
 ·exact absurd e (h' i k hi hk h1)
 ·exact h1
 ·exact absurd e.symm (h' k i hk hi h1)
theorem Np {d:List af} (h:mH d=true):Sz d∧d.length≤16∧(∀t∈d,t.aR.length≤20):=by
 simp only [mH,Bool.and_eq_true,decide_eq_true_eq,List.all_eq_true] at h;exact ⟨⟨by omega,fun t ht=>by have:=(h.2 t ht).1;omega⟩,h.1,fun t ht=>(h.2 t ht).2⟩
theorem xI {i:Int} (h0:0≤i) (h1:i≤255) {n:Nat} (hn:0<n):∃a:Nat,a<n∧Int.tmod (IntKind.wrap .i64 i) (n:Int)=(a:Int):=by
 refine ⟨i.toNat % n,Nat.mod_lt _ hn,?_⟩;rw [eC (by omega) (by omega),Int.tmod_eq_emod_of_nonneg h0];have:i=((i.toNat:Nat):Int):=by omega
 rw [this];simp
structure Ok (d:List af):Prop where
 z:Sz d
 acc:Acc d
 len:d.length≤64
 le:(qi (fI d)).length≤256
noncomputable def tys (d:List af):List Nat:=(bK d).map (·.2)
noncomputable def fN (d:List af):List aq:=(bK d).map qJ
theorem dL {d:List af}:(fN d).length=(tys d).length:=by simp [tys,fN]
theorem Ok.wh {d:List af} (h:Ok d):PL (tys d):=cl.wh h.acc h.len h.le
theorem Ok.cd {d:List af} (h:Ok d):Cd (fN d) (tys d):=Uc h.acc h.len h.le
theorem Ok.bU {d:List af} (h:Ok d):(tys d).length≤256:=by
 have:=(tS (d:=d)).length_eq;rw [tys,this];exact h.le
theorem Ok.lt {d:List af} (h:Ok d) {i:Nat} (hi:i<(tys d).length):(tys d).getD i 0<18446744073709551616:=h.cd.get hi
noncomputable abbrev cwd (d:List af) (x:aT):Nat:=cw d (cH d) x
theorem Ok.Ol {d:List af} (h:Ok d) (x:aT):cwd d x<18446744073709551616:=Qp (by have:=eY (d:=d);have:=h.len;omega)
theorem Qo {d:List af} (A:Acc d) (h64:d.length≤64) {x:aT} (hx:x∈cO d):cwd d x∈qi (fI d):=by
 obtain ⟨F,D⟩:=QM A h64;obtain ⟨e,he⟩:=F.pre;rw [he];refine List.mem_append_left _ (List.mem_map.2 ⟨x,?_,rfl⟩);exact cL.2 hx
theorem Ok.Vl {d:List af} (h:Ok d) {x:aT} (hx:x∈cO d):cwd d x∈tys d:=(tS (d:=d)).mem_iff.2 (Qo h.acc h.len hx)
theorem Ok.W6 {d:List af} (h:Ok d) {x:aT} (hx:x∈cO d):((x,cwd d x):vF)∈bK d:=by
 refine (tT (d:=d)).2.mem_iff.2 (List.mem_map.2 ⟨cwd d x,Qo h.acc h.len hx,?_⟩);have:Eo d (cwd d x)=x:=by
  rw [LL h.acc h.len (ME x),Ns h.acc h.len hx];rfl
 show (Eo d (cwd d x),cwd d x)=_;rw [this]
noncomputable def nu (d:List af) (x:aT):Nat:=(bI (fun c:aq=>c.Name==x) (fN d) 0).toNat
theorem Ok.mV {d:List af} (h:Ok d) {x:aT} (hx:x∈cO d):bI (fun c:aq=>c.Name==x) (fN d) 0=(nu d x:Int)∧nu d x<(tys d).length∧(tys d).getD (nu d x) 0=cwd d x∧∃hn:nu d x<(fN d).length,(fN d)[nu d x].Name=x:=by
 have hmem:=h.W6 hx;obtain ⟨j,hj,e⟩:=wz (fun c:aq=>c.Name==x) (fN d) 0 ⟨qJ (x,cwd d x),List.mem_map.2 ⟨_,hmem,rfl⟩,by simp [qJ]⟩;have e':bI (fun c:aq=>c.Name==x) (fN d) 0=(j:Int):=by
  have:=e.1;simpa using this
 have YN:nu d x=j:=by unfold nu;rw [e'];simp
 obtain ⟨_,c,hc,hcx⟩:=RE _ _ _ _ e';obtain ⟨p,hp,hpe⟩:=List.mem_iff_getElem.1 hmem;have hje:j<(bK d).length:=by simpa [fN] using hj
 rw [Nat.sub_zero,fN,List.getElem?_map,List.getElem?_eq_getElem hje] at hc;have hcn:(bK d)[j].1=x:=by
  have h1:c=qJ (bK d)[j]:=(Option.some.inj hc).symm;rw [h1] at hcx;exact beq_iff_eq.1 hcx
 have kq:=zP h.acc h.len;have hjp:j=p:=by
  have hj':j<((bK d).map (·.1)).length:=by simpa using hje
  have hp':p<((bK d).map (·.1)).length:=by simpa using hp
  refine IS kq hj' hp' ?_;rw [List.getElem_map,List.getElem_map,hcn,hpe]
 rw [YN];refine ⟨e',by rw [←dL];exact hj,?_,hj,by simpa using e.2.1⟩;subst hjp;show ((bK d).map (·.2)).getD j 0=_;rw [List.getD_eq_getElem?_getD,List.getElem?_map,List.getElem?_eq_getElem hje,hpe];rfl
theorem nV {d:List af} {t:af} (h:t∈d):t.Name∈cO d:=List.mem_map.2 ⟨t,h,rfl⟩
theorem Ok.names {d:List af} (h:Ok d):((fN d).map (·.Name)).Nodup:=by
 unfold fN;rw [UG];exact zP h.acc h.len
end Go.Proofs.YtmidjldjkbljjaaGreatDoor.cl
set_option linter.unusedVariables false
set_option linter.unusedSimpArgs false
set_option linter.unusedSectionVars false
namespace Go.Proofs.YtmidjldjkbljjaaGreatDoor.cl
open Go Go.AM
def upperB (c:UInt8):Bool:=decide (65≤c.toNat)&&decide (c.toNat≤90)
def jT (s:aT):Bool:=decide (1≤s.length)&&decide (s.length≤32)&& !dN (s.getD 0 0)&& !(s.getD 0 0).toNat==45&&s.all fun c=>dN c||c.toNat==45||upperB c
theorem c166 (c:UInt8):f166 (c.toNat:Int)=some (upperB c):=by
 refine e166 _ ?_;by_cases h:65≤c.toNat
 ·rw [cond_pos (by simp;omega)]
  simp only [upperB,h,decide_true,Bool.true_and]
  congr 1;rw [decide_eq_decide];omega
 ·rw [cond_neg (by simp;omega)];simp [upperB,h]
theorem Zb (c:UInt8):f160 (c.toNat:Int) true=some (dN c||c.toNat==45||upperB c):=by
 refine e160 _ _ ?_;rw [T8,ah,c166,ah];cases dN c with
 |true=>rfl
 |false=>
  by_cases h:c.toNat=45
  ·rw [cond_false,cond_pos (by simp;omega)];simp [h]
  ·rw [cond_false,cond_neg (by simp;omega)]
   cases upperB c<;>simp [h]
theorem ZB (s:aT) (hl:s.length≤1073741824):∀(xs:aT) (i:Nat),s.drop i=xs→Cq s true i=some (xs.all fun c=>dN c||c.toNat==45||upperB c):=by
 intro xs
 induction xs with
 |nil=>intro i h;refine FH _ _ _ ?_;rw [aP h];rfl
 |cons x xs ih=>
  intro i h;refine FH _ _ _ ?_;rw [aU h,cond_true,aL h,Zb,ah,aM h hl,ih (i+1) (az h),List.all_cons];cases (dN x||x.toNat==45||upperB x)<;>rfl
theorem c372 (s:aT):f372 s=some (jT s):=by
 refine e372 _ ?_;have:f140 s true=some (jT s):=by
  refine e140 _ _ ?_;by_cases h1:1≤s.length
  ·rw [cond_neg (by simp;omega)]
   by_cases h2:s.length≤32
   ·rw [cond_neg (by simp;omega),show (0:Int)=((0:Nat):Int) from rfl,bG (by omega),T8,ah,bG (by omega),ZB s (by omega) s 0 rfl]
    have e0:s.getD 0 0=s[0]:=by rw [List.getD_eq_getElem?_getD,List.getElem?_eq_getElem (by omega)];rfl
    unfold jT;rw [e0];cases dN s[0] with
    |true=>simp [h1,h2]
    |false=>
     by_cases h3:s[0].toNat=45
     ·rw [cond_false,cond_pos (by simp;omega)];simp [h3]
     ·rw [cond_false,cond_neg (by simp;omega)];simp [h1,h2,h3]
   ·rw [cond_pos (by simp;omega)];simp [jT,h2]
  ·rw [cond_pos (by simp;omega)];simp [jT,h1]
 rw [this];rfl
theorem i387 (c:Int):f387 c=some (decide (65≤c)&&decide (c≤90)):=by
 refine e387 _ ?_;by_cases h:65≤c
 ·rw [cond_pos (by simpa using h)];simp [h]
 ·rw [cond_neg (by simpa using h)];simp [h]
def okF (c:UInt8):Bool:=dN c||c.toNat==45||upperB c
def Ev (p:Nat) (c:UInt8):Bool:=if p=0 then upperB c else okF c
def Kr:Nat→aT→Bool
 |_,[]=>true
 |p,c::l=>Ev p c&&Kr (p+1) l
theorem ZC (s:aT):∀(xs:aT) (p:Nat),s.drop p=xs→ud s p=some (Kr p xs):=by
 intro xs
 induction xs with
 |nil=>
  intro p h;refine M5 _ _ ?_;have:=dM h;rw [cond_neg (by cases hb:Nat.blt p s.length with|false=>rfl|true=>simp [Nat.blt_eq] at hb;omega)];rfl
 |cons c xs ih=>
  intro p h;refine M5 _ _ ?_;have hp:=bL h;have iW:=aW h;rw [cond_pos (by simp [Nat.blt_eq];omega),i387,ah,i161,ah];by_cases hc:c.toNat<128
  ·rw [decode_ascii iW hc]
   simp only [ih (p+1) (az h)];rw [Kr];have e1:(decide (65≤(c.toNat:Int))&&decide ((c.toNat:Int)≤90))=upperB c:=by
    unfold upperB;rw [Bool.eq_iff_iff];simp;omega
   have e2:(decide (48≤(c.toNat:Int))&&decide ((c.toNat:Int)≤57))=dN c:=by
    unfold dN;rw [Bool.eq_iff_iff];simp;omega
   rw [e1,e2];unfold Ev okF;cases hl:upperB c with
   |true=>simp
   |false=>
    rw [Bool.not_false,cond_true];by_cases h0:p=0
    ·subst h0;simp
    ·rw [cond_neg (by simp;omega),if_neg h0]
     cases hd:dN c with
     |true=>simp
     |false=>
      rw [Bool.not_false,cond_true];by_cases h45:c.toNat=45
      ·rw [cond_neg (by simp;omega)];simp [h45]
      ·rw [cond_pos (by simp;omega)];simp [h45]
  ·have hw:=zx iW (by omega)
   have e1:(decide (65≤((Utf8.decode ⟨s.toArray⟩ p).1:Int))&&decide (((Utf8.decode ⟨s.toArray⟩ p).1:Int)≤90))=false:=by simp;omega
   have e2:(decide (48≤((Utf8.decode ⟨s.toArray⟩ p).1:Int))&&decide (((Utf8.decode ⟨s.toArray⟩ p).1:Int)≤57))=false:=by simp;omega
   have e3:Ev p c=false:=by
    unfold Ev okF upperB dN;split<;>simp<;>omega
   rw [Kr,e3,Bool.false_and,e1,e2,Bool.not_false,cond_true];by_cases h0:p=0
   ·subst h0;rw [cond_pos (by simp)]
   ·rw [cond_neg (by simp;omega),cond_true,cond_pos (by simp;omega)]
theorem QT:∀(xs:aT) (p:Nat),0<p→Kr p xs=xs.all okF:=by
 intro xs
 induction xs with
 |nil=>intro p _;rfl
 |cons c xs ih=>
  intro p hp;rw [Kr,ih (p+1) (by omega),List.all_cons,Ev,if_neg (by omega)]
theorem i380 (s:aT):f380 s=some (jT s):=by
 refine e380 _ ?_;have:QH s=some (jT s):=by
  refine Zo _ ?_;cases s with
  |nil=>rfl
  |cons c l=>
   rw [cond_neg (by simp;omega)];by_cases h2:(c::l).length≤32
   ·rw [cond_neg (by simp at h2⊢;omega)]
    have:=ZC (c::l) (c::l) 0 rfl;rw [this,Kr,QT _ _ (by omega)];refine congrArg some ?_;unfold jT Ev;simp only [if_true,List.getD_cons_zero,List.all_cons];have h1:decide (1≤(c::l).length)=true:=by simp
    have Df:decide ((c::l).length≤32)=true:=by simpa using h2
    rw [h1,Df];show _=(_&&((dN c||c.toNat==45||upperB c)&&l.all okF))
    cases hl:upperB c with
    |true=>
     have hd:dN c=false:=by
      unfold upperB at hl;unfold dN;simp at hl⊢;omega
     have h45:(c.toNat==45)=false:=by
      unfold upperB at hl;simp at hl⊢;omega
     simp [hd,h45]
    |false=>cases dN c<;>cases (c.toNat==45)<;>simp
   ·rw [cond_pos (by simp at h2⊢;omega)]
    have:decide ((c::l).length≤32)=false:=by simpa using h2
    unfold jT;rw [this];simp
 rw [this];rfl
def Fz (d:List af):Prop:=∀t∈d,t.aR.length≤1000
def val (t:af) (F:aT):Option aT:=(t.aR.find? fun x=>x.cF==F).map (·.Value)
theorem h373 (t:af) (F:aT) (hl:t.aR.length≤1000):∀(xs:List aj) (i:Nat),t.aR.drop i=xs→
  GU F i t=some (match xs.find? fun x=>x.cF==F with|some x=>(x.Value,true)|none=>([],false)):=by
 intro xs
 induction xs with
 |nil=>intro i h;refine SG _ _ _ ?_;rw [aP h];rfl
 |cons x xs ih=>
  intro i h;refine SG _ _ _ ?_;rw [aU h,cond_true,aL h,aL h,aM h (by omega),ih (i+1) (az h),List.find?_cons];cases x.cF==F<;>rfl
theorem Zf (t:af) (F:aT) (hl:t.aR.length≤1000):f373 t F=some (match val t F with|some v=>(v,true)|none=>([],false)):=by
 refine e373 _ _ ((h373 t F hl t.aR 0 rfl).trans ?_);rw [val];cases t.aR.find? fun x=>x.cF==F<;>rfl
theorem tJ {t:af} {F v:aT} (h:val t F=some v):∃x∈t.aR,x.cF=F∧x.Value=v:=by
 unfold val at h;obtain ⟨x,hx,rfl⟩:=Option.map_eq_some_iff.1 h;exact ⟨x,List.mem_of_find?_eq_some hx,by simpa using List.find?_some hx,rfl⟩
theorem CT {t:af} {F:aT} (h:val t F=none):∀x∈t.aR,x.cF≠F:=by
 unfold val at h;rw [Option.map_eq_none_iff,List.find?_eq_none] at h;intro x hx e;exact h x hx (by simpa using e)
theorem Mf {t:af} {F:aT}:(val t F).isSome=true↔∃x∈t.aR,x.cF=F:=by
 cases h:val t F with
 |none=>
  have:=CT h;simp only [Option.isSome_none,Bool.false_eq_true,false_iff]
  rintro ⟨x,hx,e⟩;exact this x hx e
 |some v=>
  obtain ⟨x,hx,e,_⟩:=tJ h;simp only [Option.isSome_some,true_iff];exact ⟨x,hx,e⟩
abbrev fns (t:af):List aT:=t.aR.map (·.cF)
def QL (d:List af):List aT:=d.flatMap fns
def eR (d:List af):List aT:=fo (QL d)
theorem ZO {d:List af} {i:Nat} {t:af} (hi:d[i]? =some t) (hl:t.aR.length≤1000) {r:List aT}:∀(xs:List aj) (k:Nat) (o:List aT),t.aR.drop k=xs→o.length≤1073740000+k→
  CB d ((xs.map (·.cF)).foldl (fun o s=>jV s o) o) (i+1:Nat)=some r→i<1000000→GJ d o i k=some r:=by
 intro xs
 induction xs with
 |nil=>
  intro k o h ho hr hi2;refine Sl _ _ _ _ ?_;rw [dQ hi,aP h,cond_false,bh (by omega)];exact hr
 |cons x xs ih=>
  intro k o h ho hr hi2;refine Sl _ _ _ _ ?_;have hk:=bL h;have hp:=gH x.cF o;rw [dQ hi,aU h,cond_true,dQ hi,aL h,YH _ _ (by omega),ah,aM h (by omega)];exact ih (k+1) _ (az h) (by omega) hr hi2
theorem h345 {d:List af} (hl:d.length≤1000) (hf:Fz d):∀(xs:List af) (i:Nat) (o:List aT),d.drop i=xs→o.length≤1000 *i→CB d o i=some ((QL xs).foldl (fun o s=>jV s o) o):=by
 intro xs
 induction xs with
 |nil=>intro i o h ho;refine Sk _ _ _ ?_;rw [aP h];rfl
 |cons t xs ih=>
  intro i o h ho;refine Sk _ _ _ ?_;have hi:=bL h;have ht:=hf t (List.mem_of_getElem? (aW h));rw [aU h,cond_true];refine ZO (aW h) ht t.aR 0 o rfl (by omega) ?_ (by omega);have hlen:(((fns t)).foldl (fun o s=>jV s o) o).length≤o.length+(fns t).length:=by
   have:∀(l o:List aT),(l.foldl (fun o s=>jV s o) o).length≤o.length+l.length:=by
    intro l
    induction l with
    |nil=>intro o;simp
    |cons a l ih=>
     intro o;have h1:=gH a o;have h2:=ih (jV a o);rw [List.foldl_cons,List.length_cons];omega
   exact this _ _
  rw [List.length_map] at hlen;rw [ih (i+1) ((fns t).foldl (fun o s=>jV s o) o) (az h) (by omega)];unfold QL;rw [List.flatMap_cons,List.foldl_append]
theorem WU {d:List af} (hl:d.length≤1000) (hf:Fz d):f345 d=some (eR d):=e345 _ (h345 hl hf d 0 [] rfl (by simp))
def Db (ns:List aT):List aT→List aj→Int
 |_,[]=>0
 |seen,x::l=>if jT x.cF=false then 1 else if x.cF∈seen then 4 else if x.Value∈ns then Db ns (seen++[x.cF]) l else 5
def fZ (ns:List aT):List af→Int
 |[]=>0
 |t::d=>if Db ns [] t.aR=0 then fZ ns d else Db ns [] t.aR
theorem QN (ns:List aT):∀(l:List aj) (seen:List aT),Db ns seen l=0↔(∀x∈l,jT x.cF=true∧x.Value∈ns)∧(l.map (·.cF)).Nodup∧∀x∈l,x.cF∉seen:=by
 intro l
 induction l with
 |nil=>intro seen;simp [Db]
 |cons x l ih=>
  intro seen;unfold Db;cases h1:jT x.cF with
  |false=>simp [h1]
  |true=>
   rw [if_neg (by simp)];by_cases h2:x.cF∈seen
   ·rw [if_pos h2];simp [h2]
   ·rw [if_neg h2]
    by_cases h3:x.Value∈ns
    ·rw [if_pos h3,ih]
     constructor
     ·rintro ⟨a,b,c⟩
      refine ⟨fun y hy=> ?_,?_,fun y hy=> ?_⟩
      ·rcases List.mem_cons.1 hy with rfl|hy
       ·exact ⟨h1,h3⟩
       ·exact a y hy
      ·rw [List.map_cons,List.nodup_cons]
       refine ⟨fun hm=> ?_,b⟩;obtain ⟨y,hy,e⟩:=List.mem_map.1 hm;exact c y hy (by rw [e];simp)
      ·rcases List.mem_cons.1 hy with rfl|hy
       ·exact h2
       ·exact fun hs=>c y hy (by simp [hs])
     ·rintro ⟨a,b,c⟩
      rw [List.map_cons,List.nodup_cons] at b;refine ⟨fun y hy=>a y (by simp [hy]),b.2,fun y hy hs=> ?_⟩;rcases List.mem_append.1 hs with hs|hs
      ·exact c y (by simp [hy]) hs
      ·exact b.1 (List.mem_map.2 ⟨y,hy,by simpa using hs⟩)
    ·rw [if_neg h3]
     constructor
     ·intro h;cases h
     ·rintro ⟨a,_⟩;exact absurd (a x (by simp)).2 h3
theorem nN (ns:List aT):∀(d:List af),fZ ns d=0↔∀t∈d,(∀x∈t.aR,jT x.cF=true∧x.Value∈ns)∧(fns t).Nodup:=by
 intro d
 induction d with
 |nil=>simp [fZ]
 |cons t d ih=>
  unfold fZ;have hk:=QN ns t.aR [];by_cases h:Db ns [] t.aR=0
  ·rw [if_pos h,ih]
   obtain ⟨a,b,_⟩:=hk.1 h;constructor
   ·intro hh u hu
    rcases List.mem_cons.1 hu with rfl|hu
    ·exact ⟨a,b⟩
    ·exact hh u hu
   ·exact fun hh u hu=>hh u (by simp [hu])
  ·rw [if_neg h]
   constructor
   ·intro hh;exact absurd hh h
   ·intro hh
    obtain ⟨a,b⟩:=hh t (by simp);exact absurd (hk.2 ⟨a,b,fun x _=>by simp⟩) h
theorem ZQ {d:List af} {all:List aT} (hall:all.length≤1073741824) {i k:Nat} {l:List aj} (hl:l.length≤1000) (hk:k<l.length) {r:Int}
  (hr:(if l[k].Value∈all then CD d all i l (k+1:Nat) else some 5)=some r):∀(n m:Nat),k-m=n→m≤k→
  AK d all i l k m=some (if l[k].cF∈((l.take k).drop m).map (·.cF) then 4 else r):=by
 intro n
 induction n with
 |zero=>
  intro m hm hle;have:m=k:=by omega
  subst this;refine Nh _ _ _ _ _ _ ?_;rw [cond_neg (by simp),bG hk,Qi _ _ hall,ah];have e:(l.take m).drop m=[]:=by rw [List.drop_eq_nil_iff,List.length_take];omega
  rw [e,if_neg (by simp),←hr,bh (by omega)];by_cases h:l[m].Value∈all
  ·rw [if_pos h,cond_neg (by simpa using h)]
  ·rw [if_neg h,cond_pos (by simpa using h)]
 |succ n ih=>
  intro m hm hle;have hmk:m<k:=by omega
  refine Nh _ _ _ _ _ _ ?_;rw [cond_pos (by simp;omega),bG (by omega),bG hk,bh (by omega),ih (m+1) (by omega) (by omega)];have e:(l.take k).drop m=l[m]::(l.take k).drop (m+1):=by
   rw [List.drop_eq_getElem_cons (by rw [List.length_take];omega),List.getElem_take]
  rw [e,List.map_cons];by_cases h:l[m].cF=l[k].cF
  ·rw [cond_pos (by simpa using h),if_pos (by rw [h];simp)]
  ·rw [cond_neg (by simpa using h)]
   simp only [List.mem_cons,Ne.symm h,false_or]
theorem ZP {d:List af} {all:List aT} (hall:all.length≤1073741824) {i:Nat} (hi:i<1000000) {l:List aj} (hl:l.length≤1000) {r:Int} (hr:CC d all (i+1:Nat)=some r):∀(xs:List aj) (k:Nat),l.drop k=xs→
  CD d all i l k=some (if Db all ((l.take k).map (·.cF)) xs=0 then r else Db all ((l.take k).map (·.cF)) xs):=by
 intro xs
 induction xs with
 |nil=>
  intro k h;refine Sn _ _ _ _ _ ?_;rw [aP h,cond_false,bh (by omega),hr];rfl
 |cons x xs ih=>
  intro k h;refine Sn _ _ _ _ _ ?_;have hk:=bL h;have hx:l[k]=x:=(List.getElem?_eq_some_iff.1 (aW h)).2;have htk:(l.take k).map (·.cF)++[x.cF]=(l.take (k+1)).map (·.cF):=by
   rw [List.take_add_one,aW h];simp
  rw [aU h,cond_true,aL h,c372,ah];unfold Db;cases h1:jT x.cF with
  |false=>rfl
  |true=>
   rw [Bool.not_true,cond_false];rw [if_neg (by simp:¬(true=false)),htk];have hs:=ih (k+1) (az h)
   rw [show (0:Int)=((0:Nat):Int) from rfl,ZQ hall hl hk (r:=if x.Value∈all then (if Db all ((l.take (k+1)).map (·.cF)) xs=0 then r else Db all ((l.take (k+1)).map (·.cF)) xs) else 5) (by
    rw [hx];by_cases h3:x.Value∈all
    ·rw [if_pos h3,if_pos h3];exact hs
    ·rw [if_neg h3,if_neg h3]) _ 0 rfl (by omega),List.drop_zero,hx]
   by_cases h2:x.cF∈(l.take k).map (·.cF)
   ·rw [if_pos h2,if_pos h2];rfl
   ·rw [if_neg h2,if_neg h2]
    by_cases h3:x.Value∈all
    ·rw [if_pos h3,if_pos h3];rfl
    ·rw [if_neg h3,if_neg h3];rfl
theorem h346 {d:List af} (hd:d.length≤1000) (hf:Fz d) {all:List aT} (hall:all.length≤1073741824):∀(xs:List af) (i:Nat),d.drop i=xs→CC d all i=some (fZ all xs):=by
 intro xs
 induction xs with
 |nil=>intro i h;refine Sm _ _ _ ?_;rw [aP h];rfl
 |cons t xs ih=>
  intro i h;refine Sm _ _ _ ?_;have hi:=bL h;have ht:=hf t (List.mem_of_getElem? (aW h));rw [aU h,cond_true,aL h,show (0:Int)=((0:Nat):Int) from rfl,ZP hall (by omega) ht (ih (i+1) (az h)) t.aR 0 rfl];rfl
theorem Oz {ns ms:List aT} (h:∀x,x∈ns↔x∈ms):∀(l:List aj) (seen:List aT),Db ns seen l=Db ms seen l:=by
 intro l
 induction l with
 |nil=>intro _;rfl
 |cons x l ih=>
  intro seen;unfold Db;rw [ih];simp only [h x.Value]
theorem HM {ns ms:List aT} (h:∀x,x∈ns↔x∈ms):∀(d:List af),fZ ns d=fZ ms d:=by
 intro d
 induction d with
 |nil=>rfl
 |cons t d ih=>unfold fZ;rw [ih,Oz h]
theorem c346 {d:List af} (hd:d.length≤1000) (hf:Fz d):f346 d=some (fZ (cO d) d):=by
 refine e346 _ ?_;have hal:=jc (cO d);rw [List.length_map] at hal;rw [c52 d (by omega),ah,show (0:Int)=((0:Nat):Int) from rfl,h346 hd hf (by omega) d 0 rfl,HM (fun x=>cL)]
end Go.Proofs.YtmidjldjkbljjaaGreatDoor.cl
