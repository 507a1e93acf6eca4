/- The specification of layers 4 to 6, computed at given declar. -/
import Derived.Test.YtmidjldjkbljjaaGreatDoorClSi
set_option linter.unusedVariables false
set_option linter.unusedSimpArgs false
set_option linter.unusedSectionVars false
namespace Go.Proofs.YtmidjldjkbljjaaGreatDoor.cl
open Go Go.AM
def SU (tb:List (aS×List aS)) (x y:aS):Bool:=match tb.find? fun p=>p.1==x with
 |some p=>p.2.contains y
 |none=>false
def EK (d:List af) (x:aS):List aS→List aS→Bool
 |_,[]=>true
 |seen,y::l=>(y==x||d.any fun t=>t.Name==y&&t.aB.any fun s=>seen.contains s)&&EK d x (y::seen) l
def Uy (d:List af) (tb:List (aS×List aS)):Bool:=
 (tb.all fun p=>EK d p.1 [] p.2)&&(cK d).all fun x=>SU tb x x&&(cK d).all fun y=> !SU tb x y||(dn d y).all fun z=>SU tb x z
theorem NC {d:List af} {x:aS}:∀(l seen:List aS),EK d x seen l=true→(∀s∈seen,Le d x s)→∀y∈l,Le d x y:=by
 intro l
 induction l with
 |nil=>intro seen _ _ y hy;cases hy
 |cons z l ih=>
  intro seen h hs y hy;unfold EK at h;rw [Bool.and_eq_true,Bool.or_eq_true] at h;have hz:Le d x z:=by
   rcases h.1 with h1|h1
   ·rw [beq_iff_eq] at h1;rw [h1];exact .refl
   ·obtain ⟨t,ht,h2⟩:=List.any_eq_true.1 h1
    rw [Bool.and_eq_true,beq_iff_eq] at h2;obtain ⟨s,hss,h3⟩:=List.any_eq_true.1 h2.2;rw [List.contains_iff_mem] at h3;exact .step (hs s h3) (AQ.2 ⟨t,ht,h2.1,hss⟩)
  rcases List.mem_cons.1 hy with rfl|hy
  ·exact hz
  ·refine ih (z::seen) h.2 (fun s hs'=> ?_) y hy
   rcases List.mem_cons.1 hs' with rfl|hs'
   ·exact hz
   ·exact hs s hs'
theorem KX {d:List af} {tb:List (aS×List aS)} (h:Uy d tb=true):∀x∈cK d,∀y,Le d x y↔SU tb x y=true:=by
 unfold Uy at h;rw [Bool.and_eq_true,List.all_eq_true,List.all_eq_true] at h;intro x hx y;have h2:=h.2 x hx;rw [Bool.and_eq_true,List.all_eq_true] at h2;have key:∀y,Le d x y→y∈cK d∧SU tb x y=true:=by
  intro y hl
  induction hl with
  |refl=>exact ⟨hx,h2.1⟩
  |step _ hz ih=>
   refine ⟨rI hz,?_⟩;have:=h2.2 _ ih.1;rw [Bool.or_eq_true,ih.2,List.all_eq_true] at this;rcases this with h3|h3
   ·cases h3
   ·exact h3 _ hz
 constructor
 ·intro hl
  exact (key y hl).2
 ·intro hl
  unfold SU at hl;split at hl
  ·rename_i p hp
   have hpm:=List.mem_of_find?_eq_some hp;have hpe:p.1=x:=by simpa using List.find?_some hp
   rw [List.contains_iff_mem] at hl;rw [←hpe];exact NC p.2 [] (h.1 p hpm) (fun s hs=>by cases hs) y hl
  ·cases hl
def rk (d:List af) (s:aS):Nat:=(bJ (fun t:af=>t.Name==s) d 0).toNat
def Xq (d:List af):Bool:= !zh d&&ko [] d==0&&kN (cK d) d==0&&mA d==1&&d.all fun t=>t.aB.all fun s=>Nat.blt (rk d s) (rk d t.Name)
theorem Ee {d:List af} (h:Xq d=true):ql d=0:=by
 unfold Xq at h;simp only [Bool.and_eq_true,beq_iff_eq,List.all_eq_true] at h;obtain ⟨⟨⟨⟨h1,h2⟩,h3⟩,h4⟩,h5⟩:=h;refine MR.2 ⟨by simpa using h1,h2,h3,h4,rk d,fun t ht s hs=> ?_⟩;exact Nat.le_of_ble_eq_true (h5 t ht s hs)
section
variable (d:List af) (le:aS→aS→Bool)
def U5 (all:List aS) (x:aS):Nat:=mk 0 ((List.range all.length).filter fun i=>le x (all.getD i []))
def MW:List Nat:=(cI d).map (U5 le (cI d))
def L2 (l:List aS):List aS:=(eU (l.filter fun s=>decide (s∈cK d))).filter fun x=>(eU (l.filter fun s=>decide (s∈cK d))).all fun y=>decide (y=x)|| !le y x
def mV (w:Nat):List aS→List Nat→Nat→List aS→aS
 |s::ss,c::cs,i,acc=>if c=w then s else mV w ss cs (i+1) (if w.testBit i=true then acc++[s] else acc)
 |_,_,_,acc=>je [38] (L2 d le acc)
def OY:List qV:=((nY (MW d le)).map fun w=>((mV d le w (cI d) (MW d le) 0 [],w):qV)).foldl (fun E p=>kj oa p E) []
def GZ (F:aS):Option aS:=one (L2 d le (eU (dB d F)))
def Ti (w:Nat) (F:aS) (o:Option Nat) (t:af):Option Nat:=match val t F with
 |some v=>if sub w (U5 le (cI d) t.Name)=true then some (comb o (U5 le (cI d) v)) else o
 |none=>o
def PK (w:Nat) (F:aS):Option Nat:=d.foldl (Ti d le w F) none
variable {d le} (hle:∀x∈cK d,∀y,Le d x y↔le x y=true)
include hle
open Classical in
theorem Jg {all:List aS} {x:aS} (hx:x∈cK d):cw d all x=U5 le all x:=by
 unfold cw idxs U5
 congr 1
 refine List.filter_congr fun i _=> ?_
 rw [Bool.eq_iff_iff,decide_eq_true_iff];exact hle x hx _
theorem Lm:fq d=MW d le:=by
 unfold fq MW;exact List.map_congr_left fun x hx=>Jg hle (cO.1 hx)
theorem AO (l:List aS):mw d l=L2 d le l:=by
 unfold mw L2;have hm:∀x∈eU (l.filter fun s=>decide (s∈cK d)),x∈cK d:=fun x hx=>by
  have:=(List.mem_filter.1 (cO.1 hx)).2;simpa using this
 generalize eU (l.filter fun s=>decide (s∈cK d))=m at hm;refine List.filter_congr fun x hx=> ?_
 unfold iL;rw [Bool.eq_iff_iff,List.all_eq_true,List.all_eq_true];have key:∀y∈m,((decide (y=x)|| !(open Classical in decide (Le d y x)))=true↔(decide (y=x)|| !le y x)=true):=by
  intro y hy;have h1:=hle y (hm y hy) x;cases hl:le y x with
  |true=>
   have:Le d y x:=h1.2 hl;simp [this]
  |false=>
   have:¬Le d y x:=fun h=>by rw [h1.1 h] at hl;cases hl
   simp [this]
 constructor
 ·intro h y hy
  refine (key y hy).1 ?_;have:=h y hy;simpa using this
 ·intro h y hy
  have:=(key y hy).2 (h y hy);simpa using this
theorem EF {w:Nat}:∀(ss:List aS) (cs:List Nat) (i:Nat) (acc:List aS),gw d w ss cs i acc=mV d le w ss cs i acc:=by
 intro ss
 induction ss with
 |nil=>intro cs i acc;cases cs<;>simp only [gw,mV,AO hle]
 |cons s ss ih=>
  intro cs i acc;cases cs with
  |nil=>simp only [gw,mV,AO hle]
  |cons c cs=>simp only [gw,mV,ih]
theorem Gl:bL d=OY d le:=by
 unfold bL OY tM;rw [Lm hle]
 congr 1
 exact List.map_congr_left fun w _=>by rw [EF hle]
theorem G0 (F:aS):nA d F=GZ d le F:=by unfold nA GZ;rw [AO hle]
theorem LC (hV:Vd d) (w:Nat) (F:aS):inh d w F=PK d le w F:=by
 have key:∀(l:List af) (o:Option Nat),(∀t∈l,t∈d)→l.foldl (sC d w F) o=l.foldl (Ti d le w F) o:=by
  intro l
  induction l with
  |nil=>intro o _;rfl
  |cons t l ih=>
   intro o h;rw [List.foldl_cons,List.foldl_cons];have ht:=h t (by simp);have e:sC d w F o t=Ti d le w F o t:=by
    unfold sC Ti;cases hv:val t F with
    |none=>rfl
    |some v=>
     simp only;rw [show cwd d t.Name=U5 le (cI d) t.Name from Jg hle (jt ht),show cwd d v=U5 le (cI d) v from Jg hle (hV.val ht hv)]
   rw [e];exact ih _ fun u hu=>h u (by simp [hu])
 exact key d none fun t h=>h
end
structure At (d:List af) (le:aS→aS→Bool) (E:List qV):Prop where
 hl:∀x∈cK d,∀y,Le d x y↔le x y=true
 bL:OY d le=E
 ql:ql d=0
theorem At.tys {d:List af} {le:aS→aS→Bool} {E:List qV} (h:At d le E):tys d=E.map (·.2):=by
 unfold cl.tys;rw [Gl h.hl,h.bL]
theorem At.ff {d:List af} {le:aS→aS→Bool} {E:List qV} (h:At d le E):ff d=E.map qg:=by
 unfold cl.ff;rw [Gl h.hl,h.bL]
def Tw (d:List af) (le:aS→aS→Bool) (E:List qV):Int:=
 if (nY (MW d le)).length>256 then 7 else if (dM d).length>64 then 7 else if fG (cK d) d≠0 then fG (cK d) d
 else if ((dM d).any fun F=>(GZ d le F).isNone)=true then 10 else if ((E.map (·.2)).any fun w=>(dM d).any fun F=>PK d le w F==some 0)=true then 11 else 0
theorem At.gZ {d:List af} {le:aS→aS→Bool} {E:List qV} (h:At d le E):gZ d=Tw d le E:=by
 unfold cl.gZ Tw;have h0:=h.ql;rw [if_neg (fun hh=>hh h0),Lm h.hl];by_cases h1:(nY (MW d le)).length>256
 ·rw [if_pos h1,if_pos h1]
 ·rw [if_neg h1,if_neg h1]
  by_cases h2:(dM d).length>64
  ·rw [if_pos h2,if_pos h2]
  ·rw [if_neg h2,if_neg h2]
   by_cases h3:fG (cK d) d=0
   ·have hn:¬(fG (cK d) d≠0):=fun hh=>hh h3
    rw [if_neg hn,if_neg hn];have e1:fZ d (dM d)=(dM d).any fun F=>(GZ d le F).isNone:=by
     unfold fZ
     congr 1
     funext F
     rw [G0 h.hl]
    have e2:iG d (cl.tys d)=(E.map (·.2)).any fun w=>(dM d).any fun F=>PK d le w F==some 0:=by
     unfold iG;rw [h.tys]
     congr 1
     funext w
     congr 1
     funext F
     rw [LC h.hl (wH h3)]
    rw [e1,e2]
   ·rw [if_pos h3,if_pos h3]
def nuC (E:List qV) (x:aS):Nat:=(bJ (fun c:ak=>c.Name==x) (E.map qg) 0).toNat
def Lq (d:List af) (le:aS→aS→Bool) (E:List qV):List aF:=(dM d).map fun F=>⟨F,(nuC E ((GZ d le F).getD []):Int)⟩
theorem At.va {d:List af} {le:aS→aS→Bool} {E:List qV} (h:At d le E):eX d=Lq d le E:=by
 unfold eX Lq;refine List.map_congr_left fun F _=> ?_
 unfold Aj nu nuC;rw [h.ff,G0 h.hl]
def RJ (d:List af) (le:aS→aS→Bool) (E:List qV) (w:Nat):List aS→Nat→List ai
 |[],_=>[]
 |F::l,k=>match PK d le w F with
  |some c=>⟨(k:Int),FM (E.map (·.2)) c⟩::RJ d le E w l (k+1)
  |none=>RJ d le E w l (k+1)
theorem At.row {d:List af} {le:aS→aS→Bool} {E:List qV} (h:At d le E) (hV:Vd d) (w:Nat):∀(l:List aS) (k:Nat),me d w l k=RJ d le E w l k:=by
 intro l
 induction l with
 |nil=>intro k;rfl
 |cons F l ih=>
  intro k;unfold me RJ;rw [LC h.hl hV,h.tys];cases PK d le w F with
  |none=>exact ih _
  |some c=>simp only;rw [ih]
theorem At.vals {d:List af} {le:aS→aS→Bool} {E:List qV} (h:At d le E) (hV:Vd d):gU d=(E.map (·.2)).map fun w=>RJ d le E w (dM d) 0:=by
 unfold gU;rw [h.tys];exact List.map_congr_left fun w _=>h.row hV w _ _
end Go.Proofs.YtmidjldjkbljjaaGreatDoor.cl
set_option linter.unusedVariables false
set_option linter.unusedSimpArgs false
set_option linter.unusedSectionVars false
set_option maxRecDepth 100000
namespace Go.Proofs.YtmidjldjkbljjaaGreatDoor.cl
open Go Go.AM
theorem h391 {l:List aS} (hl:l.length≤1000) {name:aS} {o6:af} {sup a c:List aS} {b:List aq}:∀(n:Nat) (xs:List aS),xs.length≤n→∀(i:Nat) (acc:List aq),l.drop i=xs→acc.length≤i→i≤2000→
  BN l i o6 name sup a b c acc=some ⟨name,sup,acc++Dr xs⟩:=by
 intro n
 induction n with
 |zero=>
  intro xs hx i acc h hacc hi;have:xs=[]:=List.length_eq_zero_iff.1 (by omega);subst this;have:=dJ h;refine Ey _ _ _ _ _ _ _ _ _ ?_;rw [bl (by omega),cond_neg (by rw [decide_eq_false_iff_not];omega)];simp [Dr]
 |succ n ih=>
  intro xs hx i acc h hacc hi
  match xs,h,hx with
  |[],h,_=>
   have:=dJ h;refine Ey _ _ _ _ _ _ _ _ _ ?_;rw [bl (by omega),cond_neg (by rw [decide_eq_false_iff_not];omega)];simp [Dr]
  |[x],h,_=>
   have:=dJ (az h);refine Ey _ _ _ _ _ _ _ _ _ ?_;rw [bl (by omega),cond_neg (by rw [decide_eq_false_iff_not];omega)];simp [Dr]
  |x::y::r,h,hx=>
   have h2:=az h;have:=bN h2;have h3:=az h2;simp only [List.length_cons] at hx;have p:=ih r (by omega) (i+2) (acc++[⟨x,y⟩]) h3 (by rw [List.length_append];simp;omega) (by omega);rw [List.append_assoc] at p;refine Ey _ _ _ _ _ _ _ _ _ ?_;rw [bl (by omega),cond_pos (by rw [decide_eq_true_iff];omega),aM h,aM h2,cF _ (by omega) (by simp) (by omega),RW (by omega)];exact p
theorem Jb (name super:aS) (l:List aS) (hl:l.length≤1000):f391 name super l=some ⟨name,[super],Dr l⟩:=by
 refine e391 _ _ _ ?_;have:=h391 hl (name:=name) (o6:=⟨[],[],[]⟩) (sup:=[super]) (a:=[]) (c:=[]) (b:=[]) _ l (Nat.le_refl _) 0 [] rfl (by simp) (by omega);rw [List.nil_append] at this;exact this
def D0:List af:=[⟨[116],[],[]⟩,⟨[117],[[116]],[]⟩,⟨[118],[[116]],[]⟩,⟨[119],[[118]],[]⟩,⟨[97],[[116]],[⟨[70],[118]⟩]⟩,⟨[98],[[97]],[⟨[70],[119]⟩,⟨[71],[116]⟩]⟩]
def D1:List af:=[⟨[116],[],[]⟩,⟨[117],[[116]],[]⟩,⟨[118],[[116]],[]⟩,⟨[119],[[118]],[]⟩,⟨[97],[[116]],[⟨[70],[118]⟩]⟩,⟨[98],[[97]],[⟨[70],[117]⟩]⟩]
def D2:List af:=[⟨[116],[],[]⟩,⟨[117],[[116]],[]⟩,⟨[118],[[116]],[]⟩,⟨[119],[[118]],[]⟩,⟨[97],[[116]],[⟨[70],[118]⟩]⟩,⟨[98],[[97]],[⟨[70],[119]⟩,⟨[71],[116]⟩]⟩,⟨[122],[[117]],[⟨[70],[118]⟩]⟩]
def T0:List (aS×List aS):=[([116],[[116],[117],[118],[97],[119],[98]]),([117],[[117]]),([118],[[118],[119]]),([119],[[119]]),([97],[[97],[98]]),([98],[[98]])]
def T2:List (aS×List aS):=[([116],[[116],[117],[118],[97],[122],[119],[98]]),([117],[[117],[122]]),([118],[[118],[119]]),([119],[[119]]),([97],[[97],[98]]),([98],[[98]]),([122],[[122]])]
def E0:List qV:=[([116],63),([97],3),([118],48),([98],2),([117],8),([119],32)]
def E2:List qV:=[([116],127),([97],3),([117],72),([118],48),([98],2),([119],32),([122],64)]
theorem at0:At D0 (SU T0) E0:=⟨KX (by kernel_rfl),by kernel_rfl,Ee (by kernel_rfl)⟩
theorem at1:At D1 (SU T0) E0:=⟨KX (by kernel_rfl),by kernel_rfl,Ee (by kernel_rfl)⟩
theorem at2:At D2 (SU T2) E2:=⟨KX (by kernel_rfl),by kernel_rfl,Ee (by kernel_rfl)⟩
theorem ck0:gZ D0=0:=at0.gZ.trans (by kernel_rfl)
theorem ck1:gZ D1=11:=at1.gZ.trans (by kernel_rfl)
theorem ck2:gZ D2=10:=at2.gZ.trans (by kernel_rfl)
def szB (d:List af):Bool:=Nat.ble d.length 64&&d.all fun t=>Nat.ble t.aB.length 20&&Nat.ble t.bz.length 20
theorem xS {d:List af} (h:szB d=true):Sz d∧d.length≤64∧Fz d:=by
 unfold szB at h;rw [Bool.and_eq_true,List.all_eq_true] at h;have h0:=Nat.le_of_ble_eq_true h.1;have key:∀t∈d,t.aB.length≤20∧t.bz.length≤20:=fun t ht=>by
  have:=h.2 t ht;rw [Bool.and_eq_true] at this;exact ⟨Nat.le_of_ble_eq_true this.1,Nat.le_of_ble_eq_true this.2⟩
 exact ⟨⟨by omega,fun t ht=>by have:=(key t ht).1;omega⟩,h0,fun t ht=>by have:=(key t ht).2;omega⟩
def F0:List aF:=[⟨[70],1⟩,⟨[71],3⟩]
def V0:List (List ai):=[[],[⟨0,2⟩],[],[⟨0,5⟩,⟨1,0⟩],[],[]]
theorem ft0:eX D0=F0:=at0.va.trans (by kernel_rfl)
theorem vl0:gU D0=V0:=by
 obtain ⟨z,h64,hf⟩:=xS (d:=D0) (by kernel_rfl);obtain ⟨O,_,_⟩:=r5 z h64 hf ck0;exact (at0.vals (wH O.fd)).trans (by kernel_rfl)
theorem x319:f319 D0=some (F0,0):=by
 obtain ⟨z,h64,hf⟩:=xS (d:=D0) (by kernel_rfl);rw [SK z h64 hf,if_pos ck0,ft0]
theorem x322:f322 D0=some (V0,0):=by
 obtain ⟨z,h64,hf⟩:=xS (d:=D0) (by kernel_rfl);rw [SL z h64 hf,if_pos ck0,vl0]
theorem Zc:f317 D0=some 0:=by
 obtain ⟨z,h64,hf⟩:=xS (d:=D0) (by kernel_rfl);rw [PJ z h64 hf,ck0]
theorem Zd:f317 D1=some 11:=by
 obtain ⟨z,h64,hf⟩:=xS (d:=D1) (by kernel_rfl);rw [PJ z h64 hf,ck1]
theorem Ze:f317 D2=some 10:=by
 obtain ⟨z,h64,hf⟩:=xS (d:=D2) (by kernel_rfl);rw [PJ z h64 hf,ck2]
def wfB (v:List (List ai)):Nat→Nat→Bool
 |0,_=>false
 |n+1,i=>(v.getD i []).all fun x=>wfB v n x.Value.toNat
theorem WH {v:List (List ai)}:∀(n i:Nat),wfB v n i=true→Wf v i:=by
 intro n
 induction n with
 |zero=>intro i h;cases h
 |succ n ih=>
  intro i h;unfold wfB at h;rw [List.all_eq_true] at h;exact .mk i fun x hx=>ih _ (h x hx)
open Classical in
theorem Zf:f347 V0=some true:=by
 have Z:Vz V0:=⟨by decide,fun r hr=>by
  simp only [V0,List.mem_cons,List.not_mem_nil,or_false] at hr;rcases hr with rfl|rfl|rfl|rfl|rfl|rfl<;>decide,fun r hr x hx=>by
  simp only [V0,List.mem_cons,List.not_mem_nil,or_false] at hr;rcases hr with rfl|rfl|rfl|rfl|rfl|rfl
  ·cases hx
  ·simp only [List.mem_cons,List.not_mem_nil,or_false] at hx;subst hx;decide
  ·cases hx
  ·simp only [List.mem_cons,List.not_mem_nil,or_false] at hx;rcases hx with rfl|rfl<;>decide
  ·cases hx
  ·cases hx⟩
 rw [SM Z]
 congr 1
 rw [decide_eq_true_iff];intro i hi;have h:((List.range 6).all fun i=>wfB V0 6 i)=true:=by kernel_rfl
 exact WH 6 i (List.all_eq_true.1 h i (List.mem_range.2 hi))
open Classical in
theorem Zg:f347 [([]:List ai),[⟨0,1⟩]]=some false:=by
 have Z:Vz [([]:List ai),[⟨0,1⟩]]:=⟨by decide,fun r hr=>by
  simp only [List.mem_cons,List.not_mem_nil,or_false] at hr;rcases hr with rfl|rfl<;>decide,fun r hr x hx=>by
  simp only [List.mem_cons,List.not_mem_nil,or_false] at hr;rcases hr with rfl|rfl
  ·cases hx
  ·simp only [List.mem_cons,List.not_mem_nil,or_false] at hx;subst hx;decide⟩
 rw [SM Z]
 congr 1
 rw [decide_eq_false_iff_not];intro h
 have:=stuck (v:=[([]:List ai),[⟨0,1⟩]]) (S:=fun i=>Nat.beq i 1) (fun i hi hS=>by
  have:i=1:=Nat.eq_of_beq_eq_true hS;subst this
  exact ⟨⟨0,1⟩,by simp,by decide,by decide⟩) 1 (h 1 (by decide)) (by decide)
 cases this
theorem XA:f316=some true:=by
 refine e316 ?_
 rw [Jb [117] [116] [] (by decide),ah,Jb [118] [116] [] (by decide),ah,Jb [119] [118] [] (by decide),ah,Jb [97] [116] [[70],[118]] (by decide),ah,Jb [98] [97] [[70],[119],[71],[116]] (by decide),ah,
  Jb [98] [97] [[70],[117]] (by decide),ah,Jb [122] [117] [[70],[118]] (by decide),ah]
 show Option.bind (f319 D0) _=_;rw [x319,ah];show Option.bind (f322 D0) _=_;rw [x322,ah,cond_neg (by rfl),cond_neg (by rfl)];show Option.bind (f321 F0 F0) _=_;rw [Xk (by decide),ah,Bool.not_true,cond_false];show Option.bind (f324 V0 V0) _=_
 rw [Xl (by decide) (fun r hr=>by
  simp only [V0,List.mem_cons,List.not_mem_nil,or_false] at hr
  rcases hr with rfl|rfl|rfl|rfl|rfl|rfl<;>decide),ah,Bool.not_true,cond_false]
 show Option.bind (f347 V0) _=_;rw [Zf,ah,Bool.not_true,cond_false,Zg,ah,cond_false,aU (by decide),aU (by decide),aU (by decide),aU (by decide),aU (by decide)];show Option.bind (f317 D0) _=_;rw [Zc,ah,cond_pos (by rfl)];show Option.bind (f317 D1) _=_;rw [Zd,ah,cond_pos (by rfl)];show Option.bind (f317 D2) _=_;rw [Ze,ah];rfl
instance:tA:=⟨XA⟩
end Go.Proofs.YtmidjldjkbljjaaGreatDoor.cl
