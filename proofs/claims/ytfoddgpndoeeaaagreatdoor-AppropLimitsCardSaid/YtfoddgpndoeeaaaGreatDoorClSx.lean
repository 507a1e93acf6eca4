/- The specification of layers 4 to 6, computed at given declar. -/
import Derived.Test.YtfoddgpndoeeaaaGreatDoorClSe
set_option linter.unusedVariables false
set_option linter.unusedSimpArgs false
set_option linter.unusedSectionVars false
namespace Go.Proofs.YtfoddgpndoeeaaaGreatDoor.cl
open Go Go.AM
theorem KQ {d:List af}:AI d=0↔EJ d=false∧mT [] d=0∧mY (cU d) d=0∧tV d=1∧s4 d:=by
 unfold AI;constructor
 ·intro h
  split at h
  ·cases h
  split at h
  ·rename_i h1;exact absurd h h1
  split at h
  ·rename_i h1;exact absurd h h1
  split at h
  ·cases h
  split at h
  ·rename_i h0 h1 h2 h3 h4
   exact ⟨by simpa using h0,Classical.byContradiction h1,Classical.byContradiction h2,Classical.byContradiction h3,h4⟩
  ·cases h
 ·rintro ⟨a,b,c,e,f⟩
  rw [if_neg (by simp [a]),if_neg (fun h=>h b),if_neg (fun h=>h c),if_neg (fun h=>h e),if_pos f]
def B5:List aR→List ah
 |a::b::l=>⟨a,b⟩::B5 l
 |_=>[]
theorem Pj {i:Nat} (h:i<4611686018427387904):IntKind.wrap .i64 ((i:Int)+2)=((i+2:Nat):Int):=by
 rw [fo (by omega) (by omega)];omega
def Oy (tb:List (aR×List aR)) (x y:aR):Bool:=match tb.find? fun p=>p.1==x with
 |some p=>p.2.contains y
 |none=>false
def Ds (d:List af) (x:aR):List aR→List aR→Bool
 |_,[]=>true
 |seen,y::l=>(y==x||d.any fun t=>t.Name==y&&t.aA.any fun s=>seen.contains s)&&Ds d x (y::seen) l
def R5 (d:List af) (tb:List (aR×List aR)):Bool:=
 (tb.all fun p=>Ds d p.1 [] p.2)&&(cU d).all fun x=>Oy tb x x&&(cU d).all fun y=> !Oy tb x y||(dn d y).all fun z=>Oy tb x z
theorem LI {d:List af} {x:aR}:∀(l seen:List aR),Ds d x seen l=true→(∀s∈seen,Le d x s)→∀y∈l,Le d x y:=by
 intro l
 induction l with
 |nil=>intro seen _ _ y hy;cases hy
 |cons z l ih=>
  intro seen h hs y hy;unfold Ds at h;rw [Bool.and_eq_true,Bool.or_eq_true] at h;have hz:Le d x z:=by
   rcases h.1 with h1|h1
   ·rw [beq_iff_eq] at h1;rw [h1];exact .refl
   ·obtain ⟨t,ht,h2⟩:=List.any_eq_true.1 h1
    rw [Bool.and_eq_true,beq_iff_eq] at h2;obtain ⟨s,hss,h3⟩:=List.any_eq_true.1 h2.2;rw [List.contains_iff_mem] at h3;exact .step (hs s h3) (zG.2 ⟨t,ht,h2.1,hss⟩)
  rcases List.mem_cons.1 hy with rfl|hy
  ·exact hz
  ·refine ih (z::seen) h.2 (fun s hs'=> ?_) y hy
   rcases List.mem_cons.1 hs' with rfl|hs'
   ·exact hz
   ·exact hs s hs'
theorem tU {d:List af} {tb:List (aR×List aR)} (h:R5 d tb=true):∀x∈cU d,∀y,Le d x y↔Oy tb x y=true:=by
 unfold R5 at h;rw [Bool.and_eq_true,List.all_eq_true,List.all_eq_true] at h;intro x hx y;have h2:=h.2 x hx;rw [Bool.and_eq_true,List.all_eq_true] at h2;have key:∀y,Le d x y→y∈cU d∧Oy tb x y=true:=by
  intro y hl
  induction hl with
  |refl=>exact ⟨hx,h2.1⟩
  |step _ hz ih=>
   refine ⟨s7 hz,?_⟩;have:=h2.2 _ ih.1;rw [Bool.or_eq_true,ih.2,List.all_eq_true] at this;rcases this with h3|h3
   ·cases h3
   ·exact h3 _ hz
 constructor
 ·intro hl
  exact (key y hl).2
 ·intro hl
  unfold Oy at hl;split at hl
  ·rename_i p hp
   have hpm:=List.mem_of_find?_eq_some hp;have hpe:p.1=x:=by simpa using List.find?_some hp
   rw [List.contains_iff_mem] at hl;rw [←hpe];exact LI p.2 [] (h.1 p hpm) (fun s hs=>by cases hs) y hl
  ·cases hl
def rk (d:List af) (s:aR):Nat:=(bX (fun t:af=>t.Name==s) d 0).toNat
def UA (d:List af):Bool:= !EJ d&&mT [] d==0&&mY (cU d) d==0&&tV d==1&&d.all fun t=>t.aA.all fun s=>Nat.blt (rk d s) (rk d t.Name)
theorem oO {d:List af} (h:UA d=true):AI d=0:=by
 unfold UA at h;simp only [Bool.and_eq_true,beq_iff_eq,List.all_eq_true] at h;obtain ⟨⟨⟨⟨h1,h2⟩,h3⟩,h4⟩,h5⟩:=h;refine KQ.2 ⟨by simpa using h1,h2,h3,h4,rk d,fun t ht s hs=> ?_⟩;exact Nat.le_of_ble_eq_true (h5 t ht s hs)
section
variable (d:List af) (le:aR→aR→Bool)
def Ss (all:List aR) (x:aR):Nat:=mk 0 ((List.range all.length).filter fun i=>le x (all.getD i []))
def KU:List Nat:=(cI d).map (Ss le (cI d))
def Kk (l:List aR):List aR:=(gw (l.filter fun s=>decide (s∈cU d))).filter fun x=>(gw (l.filter fun s=>decide (s∈cU d))).all fun y=>decide (y=x)|| !le y x
def lZ (w:Nat):List aR→List Nat→Nat→List aR→aR
 |s::ss,c::cs,i,acc=>if c=w then s else lZ w ss cs (i+1) (if w.testBit i=true then acc++[s] else acc)
 |_,_,_,acc=>ja [38] (Kk d le acc)
def M3:List rO:=((qA (KU d le)).map fun w=>((lZ d le w (cI d) (KU d le) 0 [],w):rO)).foldl (fun E p=>nV xC p E) []
def FG (F:aR):Option aR:=one (Kk d le (gw (dV d F)))
def QO (w:Nat) (F:aR) (o:Option Nat) (t:af):Option Nat:=match val t F with
 |some v=>if sub w (Ss le (cI d) t.Name)=true then some (comb o (Ss le (cI d) v)) else o
 |none=>o
def NJ (w:Nat) (F:aR):Option Nat:=d.foldl (QO d le w F) none
variable {d le} (hle:∀x∈cU d,∀y,Le d x y↔le x y=true)
include hle
open Classical in
theorem Hy {all:List aR} {x:aR} (hx:x∈cU d):cw d all x=Ss le all x:=by
 unfold cw idxs Ss
 congr 1
 refine List.filter_congr fun i _=> ?_
 rw [Bool.eq_iff_iff,decide_eq_true_iff];exact hle x hx _
theorem JV:jr d=KU d le:=by
 unfold jr KU;exact List.map_congr_left fun x hx=>Hy hle (dr.1 hx)
theorem zF (l:List aR):nB d l=Kk d le l:=by
 unfold nB Kk;have hm:∀x∈gw (l.filter fun s=>decide (s∈cU d)),x∈cU d:=fun x hx=>by
  have:=(List.mem_filter.1 (dr.1 hx)).2;simpa using this
 generalize gw (l.filter fun s=>decide (s∈cU d))=m at hm;refine List.filter_congr fun x hx=> ?_
 unfold mz;rw [Bool.eq_iff_iff,List.all_eq_true,List.all_eq_true];have key:∀y∈m,((decide (y=x)|| !(open Classical in decide (Le d y x)))=true↔(decide (y=x)|| !le y x)=true):=by
  intro y hy;have h1:=hle y (hm y hy) x;cases hl:le y x with
  |true=>
   have:Le d y x:=h1.2 hl;simp [this]
  |false=>
   have:¬Le d y x:=fun h=>by rw [h1.1 h] at hl;cases hl
   simp [this]
 constructor
 ·intro h y hy
  refine (key y hy).1 ?_;have:=h y hy;simpa using this
 ·intro h y hy
  have:=(key y hy).2 (h y hy);simpa using this
theorem Dm {w:Nat}:∀(ss:List aR) (cs:List Nat) (i:Nat) (acc:List aR),ij d w ss cs i acc=lZ d le w ss cs i acc:=by
 intro ss
 induction ss with
 |nil=>intro cs i acc;cases cs<;>simp only [ij,lZ,zF hle]
 |cons s ss ih=>
  intro cs i acc;cases cs with
  |nil=>simp only [ij,lZ,zF hle]
  |cons c cs=>simp only [ij,lZ,ih]
theorem Fa:bz d=M3 d le:=by
 unfold bz M3 BQ;rw [JV hle]
 congr 1
 exact List.map_congr_left fun w _=>by rw [Dm hle]
theorem FH (F:aR):tr d F=FG d le F:=by unfold tr FG;rw [zF hle]
theorem Kc (hV:Vd d) (w:Nat) (F:aR):inh d w F=NJ d le w F:=by
 have key:∀(l:List af) (o:Option Nat),(∀t∈l,t∈d)→l.foldl (Bc d w F) o=l.foldl (QO d le w F) o:=by
  intro l
  induction l with
  |nil=>intro o _;rfl
  |cons t l ih=>
   intro o h;rw [List.foldl_cons,List.foldl_cons];have ht:=h t (by simp);have e:Bc d w F o t=QO d le w F o t:=by
    unfold Bc QO;cases hv:val t F with
    |none=>rfl
    |some v=>
     simp only;rw [show cwd d t.Name=Ss le (cI d) t.Name from Hy hle (oc ht),show cwd d v=Ss le (cI d) v from Hy hle (hV.val ht hv)]
   rw [e];exact ih _ fun u hu=>h u (by simp [hu])
 exact key d none fun t h=>h
end
structure At (d:List af) (le:aR→aR→Bool) (E:List rO):Prop where
 hl:∀x∈cU d,∀y,Le d x y↔le x y=true
 bz:M3 d le=E
 AI:AI d=0
theorem At.tys {d:List af} {le:aR→aR→Bool} {E:List rO} (h:At d le E):tys d=E.map (·.2):=by
 unfold cl.tys;rw [Fa h.hl,h.bz]
theorem At.jK {d:List af} {le:aR→aR→Bool} {E:List rO} (h:At d le E):jK d=E.map AL:=by
 unfold cl.jK;rw [Fa h.hl,h.bz]
def Rh (d:List af) (le:aR→aR→Bool) (E:List rO):Int:=
 if (qA (KU d le)).length>256 then 7 else if (iZ d).length>64 then 7 else if iO (cU d) d≠0 then iO (cU d) d
 else if ((iZ d).any fun F=>(FG d le F).isNone)=true then 10 else if ((E.map (·.2)).any fun w=>(iZ d).any fun F=>NJ d le w F==some 0)=true then 11 else 0
theorem At.kB {d:List af} {le:aR→aR→Bool} {E:List rO} (h:At d le E):kB d=Rh d le E:=by
 unfold cl.kB Rh;have h0:=h.AI;rw [if_neg (fun hh=>hh h0),JV h.hl];by_cases h1:(qA (KU d le)).length>256
 ·rw [if_pos h1,if_pos h1]
 ·rw [if_neg h1,if_neg h1]
  by_cases h2:(iZ d).length>64
  ·rw [if_pos h2,if_pos h2]
  ·rw [if_neg h2,if_neg h2]
   by_cases h3:iO (cU d) d=0
   ·have hn:¬(iO (cU d) d≠0):=fun hh=>hh h3
    rw [if_neg hn,if_neg hn];have e1:iG d (iZ d)=(iZ d).any fun F=>(FG d le F).isNone:=by
     unfold iG
     congr 1
     funext F
     rw [FH h.hl]
    have e2:kz d (cl.tys d)=(E.map (·.2)).any fun w=>(iZ d).any fun F=>NJ d le w F==some 0:=by
     unfold kz;rw [h.tys]
     congr 1
     funext w
     congr 1
     funext F
     rw [Kc h.hl (GX h3)]
    rw [e1,e2]
   ·rw [if_pos h3,if_pos h3]
def nuC (E:List rO) (x:aR):Nat:=(bX (fun c:aB=>c.Name==x) (E.map AL) 0).toNat
def JZ (d:List af) (le:aR→aR→Bool) (E:List rO):List bC:=(iZ d).map fun F=>⟨F,(nuC E ((FG d le F).getD []):Int)⟩
theorem At.uu {d:List af} {le:aR→aR→Bool} {E:List rO} (h:At d le E):tf d=JZ d le E:=by
 unfold tf JZ;refine List.map_congr_left fun F _=> ?_
 unfold SG nu nuC;rw [h.jK,FH h.hl]
def O5 (d:List af) (le:aR→aR→Bool) (E:List rO) (w:Nat):List aR→Nat→List ai
 |[],_=>[]
 |F::l,k=>match NJ d le w F with
  |some c=>⟨(k:Int),Ni (E.map (·.2)) c⟩::O5 d le E w l (k+1)
  |none=>O5 d le E w l (k+1)
theorem At.row {d:List af} {le:aR→aR→Bool} {E:List rO} (h:At d le E) (hV:Vd d) (w:Nat):∀(l:List aR) (k:Nat),Aa d w l k=O5 d le E w l k:=by
 intro l
 induction l with
 |nil=>intro k;rfl
 |cons F l ih=>
  intro k;unfold Aa O5;rw [Kc h.hl hV,h.tys];cases NJ d le w F with
  |none=>exact ih _
  |some c=>simp only;rw [ih]
theorem At.vals {d:List af} {le:aR→aR→Bool} {E:List rO} (h:At d le E) (hV:Vd d):GU d=(E.map (·.2)).map fun w=>O5 d le E w (iZ d) 0:=by
 unfold GU;rw [h.tys];exact List.map_congr_left fun w _=>h.row hV w _ _
end Go.Proofs.YtfoddgpndoeeaaaGreatDoor.cl
set_option linter.unusedVariables false
set_option linter.unusedSimpArgs false
set_option linter.unusedSectionVars false
set_option maxRecDepth 100000
namespace Go.Proofs.YtfoddgpndoeeaaaGreatDoor.cl
open Go Go.AM
theorem h391 {l:List aR} (hl:l.length≤1000) {name:aR} {o6:af} {sup a c:List aR} {b:List ah}:∀(n:Nat) (xs:List aR),xs.length≤n→∀(i:Nat) (acc:List ah),l.drop i=xs→acc.length≤i→i≤2000→
  Ax l i o6 name sup a b c acc=some ⟨name,sup,acc++B5 xs⟩:=by
 intro n
 induction n with
 |zero=>
  intro xs hx i acc h hacc hi;have:xs=[]:=List.length_eq_zero_iff.1 (by omega);subst this;have:=eG h;refine Db _ _ _ _ _ _ _ _ _ ?_;rw [cg (by omega),cond_neg (by rw [decide_eq_false_iff_not];omega)];simp [B5]
 |succ n ih=>
  intro xs hx i acc h hacc hi
  match xs,h,hx with
  |[],h,_=>
   have:=eG h;refine Db _ _ _ _ _ _ _ _ _ ?_;rw [cg (by omega),cond_neg (by rw [decide_eq_false_iff_not];omega)];simp [B5]
  |[x],h,_=>
   have:=eG (bf h);refine Db _ _ _ _ _ _ _ _ _ ?_;rw [cg (by omega),cond_neg (by rw [decide_eq_false_iff_not];omega)];simp [B5]
  |x::y::r,h,hx=>
   have h2:=bf h;have:=cW h2;have h3:=bf h2;simp only [List.length_cons] at hx;have p:=ih r (by omega) (i+2) (acc++[⟨x,y⟩]) h3 (by rw [List.length_append];simp;omega) (by omega);rw [List.append_assoc] at p;refine Db _ _ _ _ _ _ _ _ _ ?_;rw [cg (by omega),cond_pos (by rw [decide_eq_true_iff];omega),bW h,bW h2,eo _ (by omega) (by simp) (by omega),Pj (by omega)];exact p
theorem Ht (name super:aR) (l:List aR) (hl:l.length≤1000):f391 name super l=some ⟨name,[super],B5 l⟩:=by
 refine e391 _ _ _ ?_;have:=h391 hl (name:=name) (o6:=⟨[],[],[]⟩) (sup:=[super]) (a:=[]) (c:=[]) (b:=[]) _ l (Nat.le_refl _) 0 [] rfl (by simp) (by omega);rw [List.nil_append] at this;exact this
def D0:List af:=[⟨[116],[],[]⟩,⟨[117],[[116]],[]⟩,⟨[118],[[116]],[]⟩,⟨[119],[[118]],[]⟩,⟨[97],[[116]],[⟨[70],[118]⟩]⟩,⟨[98],[[97]],[⟨[70],[119]⟩,⟨[71],[116]⟩]⟩]
def D1:List af:=[⟨[116],[],[]⟩,⟨[117],[[116]],[]⟩,⟨[118],[[116]],[]⟩,⟨[119],[[118]],[]⟩,⟨[97],[[116]],[⟨[70],[118]⟩]⟩,⟨[98],[[97]],[⟨[70],[117]⟩]⟩]
def D2:List af:=[⟨[116],[],[]⟩,⟨[117],[[116]],[]⟩,⟨[118],[[116]],[]⟩,⟨[119],[[118]],[]⟩,⟨[97],[[116]],[⟨[70],[118]⟩]⟩,⟨[98],[[97]],[⟨[70],[119]⟩,⟨[71],[116]⟩]⟩,⟨[122],[[117]],[⟨[70],[118]⟩]⟩]
def T0:List (aR×List aR):=[([116],[[116],[117],[118],[97],[119],[98]]),([117],[[117]]),([118],[[118],[119]]),([119],[[119]]),([97],[[97],[98]]),([98],[[98]])]
def T2:List (aR×List aR):=[([116],[[116],[117],[118],[97],[122],[119],[98]]),([117],[[117],[122]]),([118],[[118],[119]]),([119],[[119]]),([97],[[97],[98]]),([98],[[98]]),([122],[[122]])]
def E0:List rO:=[([116],63),([97],3),([118],48),([98],2),([117],8),([119],32)]
def E2:List rO:=[([116],127),([97],3),([117],72),([118],48),([98],2),([119],32),([122],64)]
theorem at0:At D0 (Oy T0) E0:=⟨tU (by kernel_rfl),by kernel_rfl,oO (by kernel_rfl)⟩
theorem at1:At D1 (Oy T0) E0:=⟨tU (by kernel_rfl),by kernel_rfl,oO (by kernel_rfl)⟩
theorem at2:At D2 (Oy T2) E2:=⟨tU (by kernel_rfl),by kernel_rfl,oO (by kernel_rfl)⟩
theorem ck0:kB D0=0:=at0.kB.trans (by kernel_rfl)
theorem ck1:kB D1=11:=at1.kB.trans (by kernel_rfl)
theorem ck2:kB D2=10:=at2.kB.trans (by kernel_rfl)
def szB (d:List af):Bool:=Nat.ble d.length 64&&d.all fun t=>Nat.ble t.aA.length 20&&Nat.ble t.bT.length 20
theorem wC {d:List af} (h:szB d=true):Sz d∧d.length≤64∧Fz d:=by
 unfold szB at h;rw [Bool.and_eq_true,List.all_eq_true] at h;have h0:=Nat.le_of_ble_eq_true h.1;have key:∀t∈d,t.aA.length≤20∧t.bT.length≤20:=fun t ht=>by
  have:=h.2 t ht;rw [Bool.and_eq_true] at this;exact ⟨Nat.le_of_ble_eq_true this.1,Nat.le_of_ble_eq_true this.2⟩
 exact ⟨⟨by omega,fun t ht=>by have:=(key t ht).1;omega⟩,h0,fun t ht=>by have:=(key t ht).2;omega⟩
def F0:List bC:=[⟨[70],1⟩,⟨[71],3⟩]
def V0:List (List ai):=[[],[⟨0,2⟩],[],[⟨0,5⟩,⟨1,0⟩],[],[]]
theorem ft0:tf D0=F0:=at0.uu.trans (by kernel_rfl)
theorem vl0:GU D0=V0:=by
 obtain ⟨z,h64,hf⟩:=wC (d:=D0) (by kernel_rfl);obtain ⟨O,_,_⟩:=OR z h64 hf ck0;exact (at0.vals (GX O.fd)).trans (by kernel_rfl)
theorem x319:f319 D0=some (F0,0):=by
 obtain ⟨z,h64,hf⟩:=wC (d:=D0) (by kernel_rfl);rw [VN z h64 hf,if_pos ck0,ft0]
theorem x322:f322 D0=some (V0,0):=by
 obtain ⟨z,h64,hf⟩:=wC (d:=D0) (by kernel_rfl);rw [i322 z h64 hf,if_pos ck0,vl0]
theorem Wk:f317 D0=some 0:=by
 obtain ⟨z,h64,hf⟩:=wC (d:=D0) (by kernel_rfl);rw [Qp z h64 hf,ck0]
theorem Wl:f317 D1=some 11:=by
 obtain ⟨z,h64,hf⟩:=wC (d:=D1) (by kernel_rfl);rw [Qp z h64 hf,ck1]
theorem Wm:f317 D2=some 10:=by
 obtain ⟨z,h64,hf⟩:=wC (d:=D2) (by kernel_rfl);rw [Qp z h64 hf,ck2]
def wfB (v:List (List ai)):Nat→Nat→Bool
 |0,_=>false
 |n+1,i=>(v.getD i []).all fun x=>wfB v n x.Value.toNat
theorem T5 {v:List (List ai)}:∀(n i:Nat),wfB v n i=true→Wf v i:=by
 intro n
 induction n with
 |zero=>intro i h;cases h
 |succ n ih=>
  intro i h;unfold wfB at h;rw [List.all_eq_true] at h;exact .mk i fun x hx=>ih _ (h x hx)
open Classical in
theorem Wn:f347 V0=some true:=by
 have Z:Vz V0:=⟨by decide,fun r hr=>by
  simp only [V0,List.mem_cons,List.not_mem_nil,or_false] at hr;rcases hr with rfl|rfl|rfl|rfl|rfl|rfl<;>decide,fun r hr x hx=>by
  simp only [V0,List.mem_cons,List.not_mem_nil,or_false] at hr;rcases hr with rfl|rfl|rfl|rfl|rfl|rfl
  ·cases hx
  ·simp only [List.mem_cons,List.not_mem_nil,or_false] at hx;subst hx;decide
  ·cases hx
  ·simp only [List.mem_cons,List.not_mem_nil,or_false] at hx;rcases hx with rfl|rfl<;>decide
  ·cases hx
  ·cases hx⟩
 rw [VP Z]
 congr 1
 rw [decide_eq_true_iff];intro i hi;have h:((List.range 6).all fun i=>wfB V0 6 i)=true:=by kernel_rfl
 exact T5 6 i (List.all_eq_true.1 h i (List.mem_range.2 hi))
open Classical in
theorem Wo:f347 [([]:List ai),[⟨0,1⟩]]=some false:=by
 have Z:Vz [([]:List ai),[⟨0,1⟩]]:=⟨by decide,fun r hr=>by
  simp only [List.mem_cons,List.not_mem_nil,or_false] at hr;rcases hr with rfl|rfl<;>decide,fun r hr x hx=>by
  simp only [List.mem_cons,List.not_mem_nil,or_false] at hr;rcases hr with rfl|rfl
  ·cases hx
  ·simp only [List.mem_cons,List.not_mem_nil,or_false] at hx;subst hx;decide⟩
 rw [VP Z]
 congr 1
 rw [decide_eq_false_iff_not];intro h
 have:=stuck (v:=[([]:List ai),[⟨0,1⟩]]) (S:=fun i=>Nat.beq i 1) (fun i hi hS=>by
  have:i=1:=Nat.eq_of_beq_eq_true hS;subst this
  exact ⟨⟨0,1⟩,by simp,by decide,by decide⟩) 1 (h 1 (by decide)) (by decide)
 cases this
theorem Rj:f316=some true:=by
 refine e316 ?_
 rw [Ht [117] [116] [] (by decide),aj,Ht [118] [116] [] (by decide),aj,Ht [119] [118] [] (by decide),aj,Ht [97] [116] [[70],[118]] (by decide),aj,Ht [98] [97] [[70],[119],[71],[116]] (by decide),aj,
  Ht [98] [97] [[70],[117]] (by decide),aj,Ht [122] [117] [[70],[118]] (by decide),aj]
 show Option.bind (f319 D0) _=_;rw [x319,aj];show Option.bind (f322 D0) _=_;rw [x322,aj,cond_neg (by rfl),cond_neg (by rfl)];show Option.bind (f321 F0 F0) _=_;rw [c321 (by decide),aj,Bool.not_true,cond_false];show Option.bind (f324 V0 V0) _=_
 rw [c324 (by decide) (fun r hr=>by
  simp only [V0,List.mem_cons,List.not_mem_nil,or_false] at hr
  rcases hr with rfl|rfl|rfl|rfl|rfl|rfl<;>decide),aj,Bool.not_true,cond_false]
 show Option.bind (f347 V0) _=_;rw [Wn,aj,Bool.not_true,cond_false,Wo,aj,cond_false,bg (by decide),bg (by decide),bg (by decide),bg (by decide),bg (by decide)];show Option.bind (f317 D0) _=_;rw [Wk,aj,cond_pos (by rfl)];show Option.bind (f317 D1) _=_;rw [Wl,aj,cond_pos (by rfl)];show Option.bind (f317 D2) _=_;rw [Wm,aj];rfl
instance:Uo:=⟨Rj⟩
end Go.Proofs.YtfoddgpndoeeaaaGreatDoor.cl
