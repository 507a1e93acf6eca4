/- Layer 6. -/
import Derived.Test.YtmidjldjkbljjaaGreatDoorClSf
set_option linter.unusedVariables false
set_option linter.unusedSimpArgs false
set_option linter.unusedSectionVars false
namespace Go.Proofs.YtmidjldjkbljjaaGreatDoor.cl
open Go Go.AM
noncomputable def LK (d:List af) (i:Nat):aT:=((bK d).getD i ([],0)).1
noncomputable def uu (d:List af) (i:Nat):bu:=⟨LK d i,e1 ((tys d).getD i 0),cast (Ma (tys d) i),kG d ((tys d).getD i 0) (eR d) 0⟩
noncomputable def c9 (d:List af):ak:=⟨(List.range (tys d).length).map (uu d),eP d⟩
theorem Kg {d:List af} {i:Nat} (h:i<(fN d).length):(fN d)[i]=⟨LK d i,e1 ((tys d).getD i 0)⟩:=by
 have hi:i<(bK d).length:=by simpa [fN] using h
 have e:(fN d)[i]? =some ⟨LK d i,e1 ((tys d).getD i 0)⟩:=by
  unfold fN LK tys;rw [List.getElem?_map,List.getElem?_eq_getElem hi,List.getD_eq_getElem?_getD,List.getElem?_eq_getElem hi,List.getD_eq_getElem?_getD,List.getElem?_map,List.getElem?_eq_getElem hi];rfl
 rw [List.getElem?_eq_getElem h] at e;exact Option.some.inj e
theorem BZ {α:Type} (g:Nat→α) (i:Nat):(List.range i).map g++[g i]=(List.range (i+1)).map g:=by rw [List.range_succ,List.map_append];rfl
section
variable {d:List af} (O:CZ d)
include O
theorem h331 {o2:ak} {f:List aJ} {a:List bu} {b e:List aJ}:∀(n i:Nat),(tys d).length-i=n→i≤(tys d).length→
  ug (uS d) (fN d) (fN d) (fN d).length i o2 f a b ((List.range i).map (uu d)) e=some (⟨(List.range (tys d).length).map (uu d),f⟩,0):=by
 have hl:=O.ok.bU;have xS:=dL (d:=d);intro n
 induction n with
 |zero=>
  intro i hi hle;refine Nf _ _ _ _ _ _ _ _ _ _ _ ?_;have:i=(tys d).length:=by omega
  subst this;rw [cond_neg (by rw [decide_eq_false_iff_not];omega)]
 |succ n ih=>
  intro i hi hle;refine Nf _ _ _ _ _ _ _ _ _ _ _ ?_;have hlt:i<(tys d).length:=by omega
  have hic:i<(fN d).length:=by omega
  obtain ⟨g1,g2⟩:=JN hlt;rw [cond_pos (by rw [decide_eq_true_iff];omega),bG hic,o27 O.ok.cd hlt,ah,bG g1,g2,Kg hic,cg _ (by rw [List.length_map,List.length_range];omega) (by simp) (by omega),bh (by omega)];have:=BZ (uu d) i;unfold uu at this⊢;rw [this];exact ih (i+1) (by omega) (by omega)
theorem h332 (h5:f320 d=some (eP d,0)) {o2:ak} {b:List aJ}:∀(n i:Nat),(tys d).length-i=n→i≤(tys d).length→
  Cz d (uS d) (fN d) i o2 ((List.range i).map (uu d)) b=some (c9 d,0):=by
 have hl:=O.ok.bU;have xS:=dL (d:=d);intro n
 induction n with
 |zero=>
  intro i hi hle;refine Sc _ _ _ _ _ _ _ ?_;have:i=(tys d).length:=by omega
  subst this;rw [cond_neg (by rw [decide_eq_false_iff_not];omega),h5];rfl
 |succ n ih=>
  intro i hi hle;refine Sc _ _ _ _ _ _ _ ?_;have hlt:i<(tys d).length:=by omega
  have hic:i<(fN d).length:=by omega
  obtain ⟨g1,g2⟩:=JN hlt;rw [cond_pos (by rw [decide_eq_true_iff];omega),bG hic,bG hic,o28 O.ok.cd hlt,ah,bG g1,g2,Kg hic,cg _ (by rw [List.length_map,List.length_range];omega) (by simp) (by omega),bh (by omega)];have:=BZ (uu d) i;unfold uu at this⊢;rw [this];exact ih (i+1) (by omega) (by omega)
end
theorem OO {d:List af} (z:Sz d) (h64:d.length≤64) (hf:Fz d):f331 d=some (if gJ d=0 then (c9 d,0) else (⟨[],[]⟩,gJ d)):=by
 refine e331 _ ?_;rw [i319 z h64 hf,ah,i322 z h64 hf,ah,i14 z h64,Vh z h64,ah];by_cases h:gJ d=0
 ·obtain ⟨O,h0,h1⟩:=p9 z h64 hf h
  rw [if_pos h,if_pos h,if_pos h,if_neg (by simpa using h0),if_neg h1,cond_neg (by simp),cond_neg (by simp),cond_neg (by simp)];exact h331 O _ 0 rfl (by omega)
 ·rw [if_neg h,if_neg h,cond_pos (by simpa using h),if_neg h]
theorem T9 {d:List af} (z:Sz d) (h64:d.length≤64) (hf:Fz d):f332 d=some (if gJ d=0 then (c9 d,0) else (⟨[],[]⟩,gJ d)):=by
 refine e332 _ ?_;rw [c323 z h64 hf,ah,Vh z h64,ah];by_cases h:gJ d=0
 ·obtain ⟨O,h0,h1⟩:=p9 z h64 hf h
  have h5:=c320 z h64 hf;rw [if_pos h] at h5;rw [if_pos h,if_pos h,if_neg (by simpa using h0),if_neg h1,cond_neg (by simp)];exact h332 O h5 _ 0 rfl (by omega)
 ·rw [if_neg h,cond_pos (by simpa using h),if_neg h]
structure Hz (h:ak):Prop where
 tl:h.Types.length≤1000
 fl:h.aR.length≤1000
 row:∀t∈h.Types,t.Code.length≤1000∧t.aD.length≤1000∧t.aR.length≤1000
theorem h333 {h:ak} (Z:Hz h):∀(xs:List bu) (i:Nat),h.Types.drop i=xs→GI i h h=some true:=by
 have hl:=Z.tl;intro xs
 induction xs with
 |nil=>intro i hd;refine Sd _ _ _ ?_;rw [aP hd];rfl
 |cons t xs ih=>
  intro i hd;refine Sd _ _ _ ?_;obtain ⟨z1,z2,z3⟩:=Z.row t (List.mem_of_getElem? (aW hd));rw [aU hd,cond_true,aL hd,aL hd,cond_neg (by simp),c57 _ _ (by omega),ah,cond_neg (by simp),c26 _ _ (by omega),ah,cond_neg (by simp),c359 (by omega),ah,cond_neg (by simp),aM hd (by omega)];exact ih (i+1) (az hd)
theorem WT {h:ak} (Z:Hz h):f333 h h=some true:=by
 have hl:=Z.fl;refine e333 _ _ ?_;rw [cond_neg (by simp),c321 (by omega),ah,cond_neg (by simp)];exact h333 Z h.Types 0 rfl
theorem TD {cs:List Nat} {i:Nat}:(Ma cs i).length≤cs.length:=by
 refine Nat.le_trans (List.length_filter_le _ _) (Nat.le_trans (List.length_filter_le _ _) ?_);simp
theorem hz5 {d:List af} (O:CZ d):Hz (c9 d):=by
 have hl:=O.ok.bU;have h64:=O.f64;refine ⟨by simp [c9];omega,by simp only [c9,lD];omega,fun t ht=> ?_⟩;obtain ⟨i,_,rfl⟩:=List.mem_map.1 ht;have h1:=dI ((tys d).getD i 0);have h2:=TD (cs:=tys d) (i:=i);have h3:=tg (d:=d) (w:=(tys d).getD i 0) (eR d) 0;refine ⟨by show (e1 _).length≤1000;omega,?_,by show (kG _ _ _ _).length≤1000;omega⟩;show (cast _).length≤1000;rw [List.length_map];omega
theorem hz0:Hz ⟨[],[]⟩:=⟨by simp,by simp,fun t ht=>by cases ht⟩
theorem PG {d:List af} (z:Sz d) (h64:d.length≤64) (hf:Fz d):Hz (if gJ d=0 then (c9 d,(0:Int)) else (⟨[],[]⟩,gJ d)).1:=by
 by_cases h:gJ d=0
 ·rw [if_pos h];exact hz5 (p9 z h64 hf h).1
 ·rw [if_neg h];exact hz0
class nC:Prop where
 ex:f329=some true
theorem vO [nC]:f329=some true:=nC.ex
theorem Oe (d:List af):f330 d=some (mH d):=by
 refine e330 _ ?_;rw [c38];rfl
theorem AB {d:List af} (h:mH d=true):Sz d∧d.length≤64∧Fz d:=by
 obtain ⟨z,h1,hf⟩:=Np h;exact ⟨z,by omega,fun t ht=>by have:=hf t ht;omega⟩
theorem X5 [nC] {d:List af}:f308 d=some true:=by
 refine e308 _ ?_;rw [Oe,ah,vO];cases hL:mH d with
 |false=>rfl
 |true=>
  obtain ⟨z,h64,hf⟩:=AB hL;rw [Bool.not_true,cond_false,OO z h64 hf,T9 z h64 hf,ah,ah,cond_pos (by simp),WT (PG z h64 hf),ah,cond_true];rfl
theorem h362 {a:List aT} (ha:a.length≤1000000):∀(xs:List aT) (i:Nat),a.drop i=xs→GO a a i=some true:=by
 intro xs
 induction xs with
 |nil=>intro i h;refine Sx _ _ _ ?_;rw [aP h];rfl
 |cons x xs ih=>
  intro i h;refine Sx _ _ _ ?_;rw [aU h,cond_true,aL h,aL h,cond_neg (by simp),aM h (by omega)];exact ih (i+1) (az h)
theorem c362 {a:List aT} (ha:a.length≤1000000):f362 a a=some true:=by
 refine e362 _ _ ?_;rw [cond_neg (by simp)];exact h362 ha a 0 rfl
theorem ZJ {a:List af} (ha:a.length≤1000) {i:Nat} {t:af} (hi:a[i]? =some t) (ht:t.aR.length≤1000) (hr:Cx a a (i+1:Nat)=some true):∀(xs:List aj) (k:Nat),t.aR.drop k=xs→GH a a i k=some true:=by
 have hlt:=(List.getElem?_eq_some_iff.1 hi).1;intro xs
 induction xs with
 |nil=>
  intro k h;refine R9 _ _ _ _ ?_;rw [dQ hi,aP h,cond_false,bh (by omega)];exact hr
 |cons x xs ih=>
  intro k h;refine R9 _ _ _ _ ?_;rw [dQ hi,aU h,cond_true,dQ hi,aL h,dQ hi,aL h,cond_neg (by simp),aM h (by omega)];exact ih (k+1) (az h)
theorem h328 {a:List af} (ha:a.length≤1000) (hs:∀t∈a,t.aD.length≤1000∧t.aR.length≤1000):∀(xs:List af) (i:Nat),a.drop i=xs→Cx a a i=some true:=by
 intro xs
 induction xs with
 |nil=>intro i h;refine R8 _ _ _ ?_;rw [aP h];rfl
 |cons t xs ih=>
  intro i h;refine R8 _ _ _ ?_;obtain ⟨s1,s2⟩:=hs t (List.mem_of_getElem? (aW h));rw [aU h,cond_true,aL h,aL h,cond_neg (by simp),aL h,aL h,c362 (by omega),ah,cond_neg (by simp),aL h,aL h,cond_neg (by simp),show (0:Int)=((0:Nat):Int) from rfl];exact ZJ ha (aW h) s2 (ih (i+1) (az h)) t.aR 0 rfl
theorem c328 {a:List af} (ha:a.length≤1000) (hs:∀t∈a,t.aD.length≤1000∧t.aR.length≤1000):f328 a a=some true:=by
 refine e328 _ _ ?_;rw [cond_neg (by simp)];exact h328 ha hs a 0 rfl
theorem i350 (name super:aT) (l:List aj):f350 name super l=some ⟨name,[super],l⟩:=e350 _ _ _ rfl
def uJ:List aT→List aj
 |a::b::l=>⟨a,b⟩::uJ l
 |_=>[]
theorem JP {i:Nat} (h:i<4611686018427387904):IntKind.wrap .i64 ((i:Int)+2)=((i+2:Nat):Int):=by
 rw [eC (by omega) (by omega)];omega
theorem NG {l:List aT} (hl:l.length≤1000) {name:aT} {o6:af} {sup a c:List aT} {b:List aj}:∀(n:Nat) (xs:List aT),xs.length≤n→∀(i:Nat) (acc:List aj),l.drop i=xs→acc.length≤i→i≤2000→
  CE l i o6 name sup a b c acc=some ⟨name,sup,acc++uJ xs⟩∧xB l i o6 name a b c acc=some ⟨name,c,acc++uJ xs⟩:=by
 intro n
 induction n with
 |zero=>
  intro xs hx i acc h hacc hi;have:xs=[]:=List.length_eq_zero_iff.1 (by omega);subst this;have:=dM h;constructor
  ·refine FI _ _ _ _ _ _ _ _ _ ?_
   rw [bh (by omega),cond_neg (by rw [decide_eq_false_iff_not];omega)];simp [uJ]
  ·refine AA _ _ _ _ _ _ _ _ ?_
   rw [bh (by omega),cond_neg (by rw [decide_eq_false_iff_not];omega)];simp [uJ]
 |succ n ih=>
  intro xs hx i acc h hacc hi
  match xs,h,hx with
  |[],h,_=>
   have:=dM h;constructor
   ·refine FI _ _ _ _ _ _ _ _ _ ?_
    rw [bh (by omega),cond_neg (by rw [decide_eq_false_iff_not];omega)];simp [uJ]
   ·refine AA _ _ _ _ _ _ _ _ ?_
    rw [bh (by omega),cond_neg (by rw [decide_eq_false_iff_not];omega)];simp [uJ]
  |[x],h,_=>
   have:=dM (az h);constructor
   ·refine FI _ _ _ _ _ _ _ _ _ ?_
    rw [bh (by omega),cond_neg (by rw [decide_eq_false_iff_not];omega)];simp [uJ]
   ·refine AA _ _ _ _ _ _ _ _ ?_
    rw [bh (by omega),cond_neg (by rw [decide_eq_false_iff_not];omega)];simp [uJ]
  |x::y::r,h,hx=>
   have h2:=az h;have:=bL h2;have h3:=az h2;simp only [List.length_cons] at hx;obtain ⟨p,q⟩:=ih r (by omega) (i+2) (acc++[⟨x,y⟩]) h3 (by rw [List.length_append];simp;omega) (by omega);rw [List.append_assoc] at p q;constructor
   ·refine FI _ _ _ _ _ _ _ _ _ ?_
    rw [bh (by omega),cond_pos (by rw [decide_eq_true_iff];omega),aL h,aL h2,cg _ (by omega) (by simp) (by omega),JP (by omega)];exact p
   ·refine AA _ _ _ _ _ _ _ _ ?_
    rw [bh (by omega),cond_pos (by rw [decide_eq_true_iff];omega),aL h,aL h2,cg _ (by omega) (by simp) (by omega),JP (by omega)];exact q
theorem xZ (name super:aT) (l:List aT) (hl:l.length≤1000):f351 name super l=some ⟨name,if super=[] then [] else [super],uJ l⟩:=by
 refine e351 _ _ _ ?_;by_cases h:super=[]
 ·subst h
  have:=(NG hl (name:=name) (o6:=⟨[],[],[]⟩) (sup:=[]) (a:=[]) (c:=[]) (b:=[]) _ l (Nat.le_refl _) 0 [] rfl (by simp) (by omega)).2;have hb:(!(([]:List UInt8)==([]:List UInt8)))=false:=rfl;rw [List.nil_append] at this;rw [cond_neg hb,if_pos rfl];exact this
 ·have:=(NG hl (name:=name) (o6:=⟨[],[],[]⟩) (sup:=[super]) (a:=[]) (c:=[]) (b:=[]) _ l (Nat.le_refl _) 0 [] rfl (by simp) (by omega)).1
  have hb:(!(super==([]:List UInt8)))=true:=by simpa using h
  rw [List.nil_append] at this;rw [cond_pos hb,if_neg h];exact this
def gA:List af:=[
 ⟨[116,111,112],[],[]⟩,
 ⟨[108,105,115,116],[[116,111,112]],[]⟩,
 ⟨[99,111,110,115],[[108,105,115,116]],[⟨[70,73,82,83,84],[116,111,112]⟩,⟨[82,69,83,84],[108,105,115,116]⟩]⟩,
 ⟨[110,117,108,108],[[108,105,115,116]],[]⟩,
 ⟨[100,108,105,115,116],[[116,111,112]],[⟨[76,73,83,84],[108,105,115,116]⟩,⟨[76,65,83,84],[108,105,115,116]⟩]⟩,
 ⟨[105,110,100,101,120],[[116,111,112]],[]⟩,
 ⟨[104,97,110,100,108,101],[[105,110,100,101,120]],[]⟩,
 ⟨[101,118,101,110,116],[[105,110,100,101,120]],[]⟩,
 ⟨[101,110,116,105,116,121],[[105,110,100,101,120]],[]⟩,
 ⟨[114,101,108],[[116,111,112]],[⟨[76,65,66,69,76],[104,97,110,100,108,101]⟩]⟩,
 ⟨[113,101,113],[[116,111,112]],[⟨[72,73,71,72],[104,97,110,100,108,101]⟩,⟨[76,79,87],[104,97,110,100,108,101]⟩]⟩,
 ⟨[115,101,109],[[116,111,112]],[⟨[84,79,80],[104,97,110,100,108,101]⟩,⟨[73,78,68,69,88],[105,110,100,101,120]⟩,⟨[82,69,76,83],[100,108,105,115,116]⟩,⟨[67,79,78,83],[100,108,105,115,116]⟩]⟩,
 ⟨[115,105,103,110],[[116,111,112]],[⟨[83,69,77],[115,101,109]⟩,⟨[65,82,71,83],[108,105,115,116]⟩]⟩]
theorem i326:f326=some gA:=by
 refine e326 ?_;simp only [i350,ah];rfl
theorem c327:f327=some gA:=by
 refine e327 ?_;rw [xZ _ _ _ (by decide),xZ _ _ _ (by decide),xZ _ _ _ (by decide),xZ _ _ _ (by decide),xZ _ _ _ (by decide),xZ _ _ _ (by decide),xZ _ _ _ (by decide),xZ _ _ _ (by decide),xZ _ _ _ (by decide),xZ _ _ _ (by decide),xZ _ _ _ (by decide),xZ _ _ _ (by decide),xZ _ _ _ (by decide)];simp only [ah];rfl
theorem NI:∀t∈gA,t.aD.length≤1∧t.aR.length≤4:=by
 have h:(gA.all fun t=>Nat.ble t.aD.length 1&&Nat.ble t.aR.length 4)=true:=rfl;intro t ht;have:=List.all_eq_true.1 h t ht;rw [Bool.and_eq_true] at this;exact ⟨Nat.le_of_ble_eq_true this.1,Nat.le_of_ble_eq_true this.2⟩
def Pz (d:List af):Prop:=∀t∈d,t.aD.length≤1∧t.aR.length≤4
theorem h307 [nC] {names:List aT} (hn:names.length≤3) {super:Int} (h0:0≤super) (h1:super≤255):∀(xs:List aT) (i:Nat) (o:List af),names.drop i=xs→o.length=13+i→Pz o→i≤names.length→yZ super gA names names.length i o=some true:=by
 intro xs
 induction xs with
 |nil=>
  intro i o h ho hp hi;refine R1 _ _ _ _ _ _ ?_;rw [aP h,cond_false];have z:Sz o:=⟨by omega,fun t ht=>by have:=(hp t ht).1;omega⟩
  have hf:Fz o:=fun t ht=>by have:=(hp t ht).2;omega
  have h64:o.length≤64:=by omega
  rw [OO z h64 hf,T9 z h64 hf,ah,ah,ah,cond_pos (by simp),WT (PG z h64 hf),ah,cond_true,vO];rfl
 |cons x xs ih=>
  intro i o h ho hp hile;refine R1 _ _ _ _ _ _ ?_;have hi:=bL h;obtain ⟨a,ha,e⟩:=xI h0 h1 (n:=gA.length) (by decide);rw [aU h,cond_true,aL h,aV (by decide),e,bG ha,cg _ (by omega) (by simp) (by omega),aM h (by omega)];refine ih (i+1) _ (az h) (by rw [List.length_append,ho];simp;omega) (fun t ht=> ?_) (bL h);rcases List.mem_append.1 ht with ht|ht
  ·exact hp t ht
  ·simp only [List.mem_singleton] at ht
   subst ht;exact ⟨by simp,by simp⟩
theorem X4 [nC] {names:List aT} {super:Int} (h0:0≤super) (h1:super≤255):f307 names super=some true:=by
 refine e307 _ _ ?_;rw [i326,c327,ah,ah,c328 (by decide) (fun t ht=>by have:=NI t ht;omega),ah,Bool.not_true,cond_false,vO,ah];by_cases hn:names.length≤3
 ·rw [cond_neg (by rw [decide_eq_false_iff_not];omega),cg _ (by simp) (by decide) (by omega),List.nil_append]
  exact h307 hn h0 h1 names 0 gA rfl rfl NI (by omega)
 ·rw [cond_pos (by rw [decide_eq_true_iff];omega)]
end Go.Proofs.YtmidjldjkbljjaaGreatDoor.cl
set_option linter.unusedVariables false
set_option linter.unusedSimpArgs false
set_option linter.unusedSectionVars false
namespace Go.Proofs.YtmidjldjkbljjaaGreatDoor.cl
open Go Go.AM
structure Hd (h:ak) (cs:List Nat):Prop where
 eq:h.Types.map (·.Code)=cs.map e1
 lt:∀c∈cs,c<18446744073709551616
 len:cs.length≤1000
theorem Hd.length {h:ak} {cs:List Nat} (H:Hd h cs):h.Types.length=cs.length:=by
 have:=congrArg List.length H.eq;simpa using this
theorem Hd.code {h:ak} {cs:List Nat} (H:Hd h cs) {i:Nat} (hi:i<h.Types.length):h.Types[i].Code=e1 (cs.getD i 0):=by
 have hi':i<cs.length:=by rw [←H.length];exact hi
 have:=congrArg (fun l=>l[i]?) H.eq;simp only [List.getElem?_map,List.getElem?_eq_getElem hi,List.getElem?_eq_getElem hi',Option.map_some,Option.some.injEq] at this;rw [this,List.getD_eq_getElem?_getD,List.getElem?_eq_getElem hi'];rfl
theorem Hd.get {h:ak} {cs:List Nat} (H:Hd h cs) {i:Nat} (hi:i<cs.length):cs.getD i 0<18446744073709551616:=H.lt _ (dO hi)
theorem hty {d:List af} {i:Nat} (hi:i<(tys d).length):∃h:i<(c9 d).Types.length,(c9 d).Types[i]=uu d i:=by
 refine ⟨by simpa [c9] using hi,?_⟩;simp [c9]
theorem OF {d:List af} (O:CZ d):Hd (c9 d) (tys d):=by
 refine ⟨?_,fun c hc=>O.ok.Wt hc,by have:=O.ok.bU;omega⟩;apply List.ext_getElem
 ·simp [c9]
 ·intro i h1 h2
  have hi:i<(tys d).length:=by simpa using h2
  simp only [c9,List.getElem_map,List.getElem_range,uu];rw [List.getD_eq_getElem?_getD,List.getElem?_eq_getElem hi];rfl
def mL (cs:List Nat) (w:Nat):Int×Bool:=if tU cs w<0 then (0,false) else (tU cs w,true)
def Vn (xs:List Nat) (w i:Nat):Int:=match xs.findIdx? (· ==w) with
 |some j=>((i+j:Nat):Int)
 |none=> -1
theorem HV (cs:List Nat) (w:Nat):Vn cs w 0=tU cs w:=by
 unfold Vn tU;cases cs.findIdx? (· ==w)<;>simp
theorem HU (c:Nat) (xs:List Nat) (w i:Nat):Vn (c::xs) w i=if c=w then (i:Int) else Vn xs w (i+1):=by
 unfold Vn;rw [List.findIdx?_cons];by_cases e:c=w
 ·subst e;simp
 ·have h2:(c==w)=false:=by simpa using e
  rw [h2,if_neg e];cases xs.findIdx? (· ==w) with
  |none=>rfl
  |some j=>
   show ((i+(j+1):Nat):Int)=((i+1+j:Nat):Int)
   omega
theorem FA {h:ak} {cs:List Nat} (H:Hd h cs) {i c:Nat} {xs:List Nat} (hd:cs.drop i=c::xs):∃hi:i<h.Types.length,h.Types[i].Code=e1 c∧c<18446744073709551616:=by
 have hi:=bL hd;have hl:=H.length;refine ⟨by omega,?_,?_⟩
 ·rw [H.code,List.getD_eq_getElem?_getD,aW hd];rfl
 ·exact H.lt c (List.mem_of_getElem? (aW hd))
section
variable {h:ak} {cs:List Nat} (H:Hd h cs)
include H
theorem h353 {w:Nat} (hw:w<18446744073709551616):∀(xs:List Nat) (i:Nat),cs.drop i=xs→CF h.Types (e1 w) h.Types.length i=some (Vn xs w i):=by
 have hl:=H.len;intro xs
 induction xs with
 |nil=>intro i hd;refine Sp _ _ _ _ ?_;rw [H.length,aP hd];rfl
 |cons c xs ih=>
  intro i hd;refine Sp _ _ _ _ ?_;obtain ⟨hi,hc,Bm⟩:=FA H hd;have h371:f371 h.Types[i] (e1 w)=some (decide (c=w)):=by
   refine e371 _ _ ?_;rw [hc,BO Bm hw];rfl
  have hlen:=H.length;rw [cond_pos (by rw [decide_eq_true_iff];omega),bG hi,h371,ah,bh (by omega),ih (i+1) (az hd),HU];by_cases e:c=w
  ·rw [if_pos e,cond_pos (by simpa using e)]
  ·rw [if_neg e,cond_neg (by simpa using e)]
theorem o353 {w:Nat} (hw:w<18446744073709551616):f353 h.Types (e1 w)=some (tU cs w):=by
 refine e353 _ _ ?_;rw [←HV];exact h353 H hw cs 0 rfl
variable (K:PL cs) {i j:Nat} (hi:i<cs.length) (hj:j<cs.length)
include hi
theorem LP {j:Nat} (hj:j<cs.length):f339 h i j=some (sub (cs.getD j 0) (cs.getD i 0)):=by
 refine e339 _ _ _ ?_;have hl:=H.length;rw [bG (by omega),bG (by omega),H.code,H.code,Wv (H.get hj) (H.get hi)];rfl
include K hj
theorem Tl:f335 h i j=some (mL cs (cs.getD i 0&&&cs.getD j 0)):=by
 refine e335 _ _ _ ?_;have hl:=H.length;have hw:cs.getD i 0&&&cs.getD j 0<18446744073709551616:=Nat.lt_of_le_of_lt Nat.and_le_left (H.get hi);rw [bG (by omega),bG (by omega),H.code,H.code,Dp (H.get hi) (H.get hj),ah];by_cases h0:cs.getD i 0&&&cs.getD j 0=0
 ·rw [h0,cond_pos (by rfl)]
  unfold mL;rw [Aw (fun hm=>K.nz 0 hm rfl)];rfl
 ·rw [cond_neg (by rw [beq_eq_false_iff_ne];intro e;exact h0 (lP (by omega))),o353 H hw,ah]
  unfold mL;by_cases hn:tU cs (cs.getD i 0&&&cs.getD j 0)<0
  ·rw [cond_pos (by simpa using hn),if_pos hn]
  ·rw [cond_neg (by simpa using hn),if_neg hn]
omit hi hj K in
theorem h337 {u:Nat} (hu:u<18446744073709551616):∀(n k b:Nat),cs.length-k=n→k≤cs.length→b<cs.length→sub u (cs.getD b 0)=true→(∀m,m<k→sub u (cs.getD m 0)=true→c4 64 (cs.getD b 0)≤c4 64 (cs.getD m 0))→
  ∃b':Nat,oh (e1 u) b h.Types h.Types.length k h=some (b':Int)∧b'<cs.length∧sub u (cs.getD b' 0)=true∧∀m,m<cs.length→sub u (cs.getD m 0)=true→c4 64 (cs.getD b' 0)≤c4 64 (cs.getD m 0):=by
 have hl:=H.len;have hlen:=H.length;intro n
 induction n with
 |zero=>
  intro k b hk hle hb hs hm;refine ⟨b,Se _ _ _ _ _ _ ?_,hb,hs,fun m hml=>hm m (by omega)⟩;rw [cond_neg (by rw [decide_eq_false_iff_not];omega)]
 |succ n ih=>
  intro k b hk hle hb hs hm;have hlt:k<cs.length:=by omega
  have start:∀{r},(bif sub u (cs.getD k 0) then (bif decide ((c4 64 (cs.getD k 0):Int)<(c4 64 (cs.getD b 0):Int)) then oh (e1 u) k h.Types h.Types.length (k+1:Nat) h else oh (e1 u) b h.Types h.Types.length (k+1:Nat) h) else oh (e1 u) b h.Types h.Types.length (k+1:Nat) h)=some r→oh (e1 u) b h.Types h.Types.length k h=some r:=by
   intro r hr;refine Se _ _ _ _ _ _ ?_;rw [cond_pos (by rw [decide_eq_true_iff];omega),bG (by omega),H.code,Wv hu (H.get hlt),ah,o30 (H.get hlt),ah,bG (by omega),H.code,o30 (H.get hb),ah,bh (by omega)];exact hr
  cases hsk:sub u (cs.getD k 0) with
  |false=>
   obtain ⟨b',h1,h2⟩:=ih (k+1) b (by omega) (by omega) hb hs (fun m hml XA=>by
    by_cases e:m=k
    ·subst e;rw [hsk] at XA;cases XA
    ·exact hm m (by omega) XA)
   refine ⟨b',start ?_,h2⟩;rw [hsk,cond_false];exact h1
  |true=>
   by_cases hc:c4 64 (cs.getD k 0)<c4 64 (cs.getD b 0)
   ·obtain ⟨b',h1,h2⟩:=ih (k+1) k (by omega) (by omega) hlt hsk (fun m hml XA=>by
     by_cases e:m=k
     ·subst e;omega
     ·have:=hm m (by omega) XA;omega)
    refine ⟨b',start ?_,h2⟩;rw [hsk,cond_true,cond_pos (by rw [decide_eq_true_iff];omega)];exact h1
   ·obtain ⟨b',h1,h2⟩:=ih (k+1) b (by omega) (by omega) hb hs (fun m hml XA=>by
     by_cases e:m=k
     ·subst e;omega
     ·exact hm m (by omega) XA)
    refine ⟨b',start ?_,h2⟩;rw [hsk,cond_true,cond_neg (by rw [decide_eq_false_iff_not];omega)];exact h1
theorem Yh:f337 h i j=some (tU cs (join cs (cs.getD i 0) (cs.getD j 0))):=by
 have hl:=H.length;have hi':=H.get hi;have hj':=H.get hj;have hu:=BQ hi' hj';have Uy:sub (cs.getD i 0|||cs.getD j 0) (cs.getD 0 0)=true:=tB.2 ⟨K.top _ (dO hi),K.top _ (dO hj)⟩;obtain ⟨b,h1,h2,h3,h4⟩:=h337 H hu _ 0 0 rfl (by omega) K.pos Uy (fun m hm=>by omega);obtain ⟨j1,j2,j3,j4⟩:=Ef K (dO hi) (dO hj);obtain ⟨q,q1,q2,q3⟩:=qR j1;have hbj:sub (join cs (cs.getD i 0) (cs.getD j 0)) (cs.getD b 0)=true:=j4 _ (dO h2) (tB.1 h3).1 (tB.1 h3).2;have hle:=h4 q q1 (by rw [q2];exact tB.2 ⟨j2,j3⟩);have heq:join cs (cs.getD i 0) (cs.getD j 0)=cs.getD b 0:=by
  apply Classical.byContradiction;intro hne;have:=Tq (H.get h2) hbj hne;rw [q2,A8,A8] at hle;omega
 have hqb:q=b:=getD_inj K.nd q1 h2 (by rw [q2,heq]);refine e337 _ _ _ ?_;rw [bG (by omega),bG (by omega),H.code,H.code,o62 hi' hj',ah,q3,hqb];exact h1
end
def mO (cs:List Nat) (t n:Nat):List Nat:=(List.range n).filter fun k=>sub (cs.getD k 0) (cs.getD t 0)
theorem Ch (cs:List Nat) (t n:Nat):mO cs t (n+1)=mO cs t n++(if sub (cs.getD n 0) (cs.getD t 0)=true then [n] else []):=by
 unfold mO;rw [List.range_succ,List.filter_append]
 congr 1
 cases hs:sub (cs.getD n 0) (cs.getD t 0) with
 |false=>rw [if_neg (by simp),List.filter_cons,hs];rfl
 |true=>rw [if_pos rfl,List.filter_cons,hs];rfl
theorem ua (cs:List Nat) (t n:Nat):(mO cs t n).length≤n:=by
 have:=List.length_filter_le (fun k=>sub (cs.getD k 0) (cs.getD t 0)) (List.range n);simpa [mO] using this
section
variable {h:ak} {cs:List Nat} (H:Hd h cs) {t:Nat} (ht:t<cs.length)
include H ht
theorem h341:∀(n k:Nat),cs.length-k=n→k≤cs.length→vu t h.Types.length k h (cast (mO cs t k))=some (cast (mO cs t cs.length)):=by
 have hl:=H.len;have hlen:=H.length;intro n
 induction n with
 |zero=>
  intro k hk hle;have:k=cs.length:=by omega
  subst this;refine Sg _ _ _ _ _ ?_;rw [cond_neg (by rw [decide_eq_false_iff_not];omega)]
 |succ n ih=>
  intro k hk hle;refine Sg _ _ _ _ _ ?_;have hlt:k<cs.length:=by omega
  have h1:=ih (k+1) (by omega) (by omega);have h2:=ua cs t k;rw [Ch] at h1;rw [cond_pos (by rw [decide_eq_true_iff];omega),LP H ht hlt,ah,bh (by omega)];cases hs:sub (cs.getD k 0) (cs.getD t 0) with
  |true=>
   rw [hs,if_pos rfl] at h1;rw [cond_true,cg _ (by rw [List.length_map];omega) (by simp) (by omega)];have e:cast (mO cs t k)++[(k:Int)]=cast (mO cs t k++[k]):=by simp [cast]
   rw [e];exact h1
  |false=>
   rw [hs,if_neg (by simp),List.append_nil] at h1;rw [cond_false];exact h1
theorem Yi:f341 h t=some (cast (mO cs t cs.length)):=by
 refine e341 _ _ ?_;exact h341 H ht _ 0 rfl (by omega)
end
theorem ZR {l:List bu} (hl:l.length≤1000) (x:aT):∀(xs:List bu) (i:Nat),l.drop i=xs→xC l x l.length i=some (bI (fun c=>c.Name==x) xs i):=by
 intro xs
 induction xs with
 |nil=>intro i h;refine Ni _ _ _ _ ?_;rw [aP h];rfl
 |cons y xs ih=>
  intro i h;refine Ni _ _ _ _ ?_;have h374:f374 y x=some (y.Name==x):=e374 _ _ rfl;rw [aU h,cond_true,aL h,h374,ah,aM h (by omega),ih (i+1) (az h),bI];cases y.Name==x<;>rfl
theorem XK {h:ak} (hl:h.Types.length≤1000) (x:aT):f352 h x=some (bI (fun c=>c.Name==x) h.Types 0):=by
 refine e352 _ _ ?_;have:QI h.Types x=some (bI (fun c=>c.Name==x) h.Types 0):=Zp _ _ (ZR hl x h.Types 0 rfl);rw [this];rfl
theorem h363 {h:ak} (hl:h.aR.length≤1000) (x:aT):∀(xs:List aJ) (i:Nat),h.aR.drop i=xs→CI x h.aR h.aR.length i h=some (bI (fun c=>c.Name==x) xs i):=by
 intro xs
 induction xs with
 |nil=>intro i hd;refine Sy _ _ _ _ _ ?_;rw [aP hd];rfl
 |cons y xs ih=>
  intro i hd;refine Sy _ _ _ _ _ ?_;rw [aU hd,cond_true,aL hd,aM hd (by omega),ih (i+1) (az hd),bI];cases hb:y.Name==x<;>simp
theorem XL {h:ak} (hl:h.aR.length≤1000) (x:aT):f363 h x=some (bI (fun c=>c.Name==x) h.aR 0):=e363 _ _ (h363 hl x h.aR 0 rfl)
theorem fA {d:List af} (O:CZ d):((c9 d).Types.map (·.Name)).Nodup:=by
 have h:=O.ok.names;have:(c9 d).Types.map (·.Name)=(fN d).map (·.Name):=by
  apply List.ext_getElem
  ·simp [c9,dL]
  ·intro i h1 h2
   have hi:i<(fN d).length:=by simpa using h2
   simp only [c9,List.getElem_map,List.getElem_range,uu];rw [Kg hi]
 rw [this];exact h
theorem MY {α:Type} (g:α→aT) {l:List α} (hn:(l.map g).Nodup) {i:Nat} (hi:i<l.length):bI (fun y=>g y==g l[i]) l 0=(i:Int):=by
 obtain ⟨q,hq,e1,e2,_⟩:=wz (fun y=>g y==g l[i]) l 0 ⟨l[i],List.getElem_mem hi,by simp⟩;rw [e1,Nat.zero_add];have:=IS hn (i:=q) (k:=i) (by simpa using hq) (by simpa using hi) (by simpa using e2);rw [this]
theorem HP {d:List af}:((eP d).map (·.Name)).Nodup:=by
 have:(eP d).map (·.Name)=eR d:=by
  unfold eP;rw [List.map_map];exact (List.map_congr_left (fun x _=>rfl)).trans (List.map_id _)
 rw [this];exact (cT _).nodup
theorem h355 {h:ak} {l:List au} (hl:l.length≤1000) (f:Int):∀(xs:List au) (i:Nat),l.drop i=xs→CG f l l.length i h=some (match xs.find? fun x=>x.cF==f with|some x=>(x.Value,true)|none=>(0,false)):=by
 intro xs
 induction xs with
 |nil=>intro i hd;refine Sr _ _ _ _ _ ?_;rw [aP hd];rfl
 |cons x xs ih=>
  intro i hd;refine Sr _ _ _ _ _ ?_;rw [aU hd,cond_true,aL hd,aM hd (by omega),ih (i+1) (az hd),List.find?_cons];cases hb:x.cF==f<;>simp
theorem Ji {d:List af} {w j:Nat} {F:aT} (h:(eR d)[j]? =some F):(match (kG d w (eR d) 0).find? (fun x=>x.cF==(j:Int)) with|some x=>(x.Value,true)|none=>(0,false))=(match inh d w F with|some c=>(tU (tys d) c,true)|none=>(0,false)):=by
 have:=Pg (d:=d) (w:=w) (eR d) 0 j F h;rw [Nat.zero_add] at this;rw [this];cases inh d w F<;>rfl
section
variable {d:List af} (O:CZ d) {T:Nat} (hT:T<(tys d).length) {j:Nat} {F:aT} (hj:(eR d)[j]? =some F)
include O hT hj
theorem O3:f355 (c9 d) T j=some (match inh d ((tys d).getD T 0) F with|some c=>(tU (tys d) c,true)|none=>(0,false)):=by
 obtain ⟨g1,g2⟩:=hty hT;have h3:=tg (d:=d) (w:=(tys d).getD T 0) (eR d) 0;have h64:=O.f64;refine e355 _ _ _ ?_;rw [bG g1,g2,←Ji hj];exact h355 (by show (kG _ _ _ _).length≤1000;omega) j _ 0 rfl
end
end Go.Proofs.YtmidjldjkbljjaaGreatDoor.cl
