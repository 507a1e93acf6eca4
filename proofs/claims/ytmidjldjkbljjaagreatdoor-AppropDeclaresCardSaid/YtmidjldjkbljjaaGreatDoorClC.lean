/- The Closure laws. -/
import Derived.Test.YtmidjldjkbljjaaGreatDoorClB
import Derived.Test.YtmidjldjkbljjaaGreatDoorClG
set_option linter.unusedVariables false
set_option linter.unusedSimpArgs false
set_option linter.unusedSectionVars false
namespace Go.Proofs.YtmidjldjkbljjaaGreatDoor.cl
open Go Go.AM
theorem h37 (l:List aS) (s:aS) (hl:l.length≤1073741824):∀(xs:List aS) (i:Nat),l.drop i=xs→Mm l s i=some (decide (s∈xs)):=by
 intro xs
 induction xs with
 |nil=>intro i h;refine TW _ _ _ ?_;rw [aQ h];simp
 |cons x xs ih=>
  intro i h;refine TW _ _ _ ?_;rw [aT h,cond_true,aM h,aN h hl,ih (i+1) (az h)];by_cases e:x=s
  ·subst e;rw [cond_pos (by simp)];simp
  ·rw [cond_neg (by simpa using e)]
   have:¬s=x:=fun h=>e h.symm
   simp [this]
theorem OF (l:List aS) (s:aS) (hl:l.length≤1073741824):f37 l s=some (decide (s∈l)):=e37 _ _ (h37 l s hl l 0 rfl)
theorem h98 (l:List aS) (s:aS) (hl:l.length≤1073741824):∀(xs:List aS) (i:Nat),l.drop i=xs→i≤l.length→Mv l s i []=some (l.take i++jP s xs):=by
 intro xs
 induction xs with
 |nil=>
  intro i h hle;refine Ut _ _ _ _ ?_;have hge:=dJ h;obtain rfl:i=l.length:=by omega
  rw [aQ h,cond_false,cond_false,qm (Nat.le_refl _),aU (by simp;omega),aU (by simp;omega),qm (Nat.le_refl _),aU (by simp;omega)];simp [jP]
 |cons x xs ih=>
  intro i h hle;refine Ut _ _ _ _ ?_;have hlt:=bN h;have hd:l.take (i+1)=l.take i++[x]:=by
   rw [List.take_add_one,aZ h];rfl
  have hd2:(l.take l.length).drop i=x::xs:=by rw [List.take_length,h]
  rw [aT h,cond_true,aM h,cond_true,aM h,aN h hl,ih (i+1) (az h) (by omega),jP];cases hb:Op.bytesLess x s with
  |true=>simp [hd]
  |false=>
   rw [cond_false];by_cases e:x=s
   ·subst e
    rw [cond_pos (by simp)];simp only [if_pos,Bool.false_eq_true,if_false,←h,List.take_append_drop]
   ·rw [cond_neg (by simpa using e),qm (by omega),cF _ (by simp) (by simp;omega) (by omega),cF _ (by simp;omega) (by simp) (by omega),qm (by omega),cF _ (by simp;omega) (by simp;omega) (by omega),Int.toNat_natCast,hd2]
    simp [e]
theorem WK (l:List aS) (s:aS) (hl:l.length≤1073741824):f98 l s=some (jP s l):=e98 _ _ (by
 have:=h98 l s hl l 0 rfl (by omega)
 simpa using this)
theorem h111 (d:List af) (s:aS) (hl:d.length≤1073741824):∀(xs:List af) (i:Nat),d.drop i=xs→Fx d s i=some (bJ (fun t=>t.Name==s) xs i):=by
 intro xs
 induction xs with
 |nil=>intro i h;refine PW _ _ _ ?_;rw [aQ h];rfl
 |cons x xs ih=>
  intro i h;refine PW _ _ _ ?_;rw [aT h,cond_true,aM h,aN h hl,ih (i+1) (az h),bJ];cases x.Name==s<;>rfl
def fd (d:List af) (s:aS):Int:=bJ (fun t=>t.Name==s) d 0
theorem MN (d:List af) (s:aS) (hl:d.length≤1073741824):f111 d s=some (fd d s):=e111 _ _ (h111 d s hl d 0 rfl)
abbrev cK (d:List af):List aS:=d.map (·.Name)
theorem Aw {α:Type} (p:α→Bool):∀(xs:List α) (i:Nat),bJ p xs i<0↔∀x∈xs,p x=false:=by
 intro xs
 induction xs with
 |nil=>intro i;simp [bJ]
 |cons x xs ih=>
  intro i;rw [bJ];cases h:p x with
  |true=>simp [h]
  |false=>simp [h,ih (i+1)]
theorem vr {α:Type} (p:α→Bool):∀(xs:List α) (i:Nat),(∃x∈xs,p x=true)→∃j,∃h:j<xs.length,bJ p xs i=((i+j:Nat):Int)∧p xs[j]=true∧∀k (hk:k<j),p (xs[k]'(by omega))=false:=by
 intro xs
 induction xs with
 |nil=>intro i h;obtain ⟨x,hx,_⟩:=h;cases hx
 |cons x xs ih=>
  intro i h;rw [bJ];cases hp:p x with
  |true=>exact ⟨0,by simp,by simp,by simpa using hp,fun k hk=>by omega⟩
  |false=>
   obtain ⟨j,hj,e,h1,h2⟩:=ih (i+1) (by
    obtain ⟨y,hy,hpy⟩:=h;rcases List.mem_cons.1 hy with rfl|hy
    ·rw [hp] at hpy;cases hpy
    ·exact ⟨y,hy,hpy⟩)
   refine ⟨j+1,by simp;omega,?_,by simpa using h1,?_⟩
   ·simp only [Bool.false_eq_true,if_false,e];congr 1;omega
   ·intro k hk
    cases k with
    |zero=>simpa using hp
    |succ k=>simpa using h2 k (by omega)
theorem Ej {d:List af} {s:aS}:fd d s<0↔s∉cK d:=by
 rw [fd,Aw];constructor
 ·intro h hs
  obtain ⟨t,ht,e⟩:=List.mem_map.1 hs;have:=h t ht;simp [e] at this
 ·intro h t ht
  simp only [beq_eq_false_iff_ne,ne_eq];exact fun e=>h (e▸List.mem_map_of_mem ht)
theorem zz {d:List af} {s:aS} (h:s∈cK d):∃j,∃hj:j<d.length,fd d s=(j:Int)∧d[j].Name=s∧∀k (hk:k<j),(d[k]'(by omega)).Name≠s:=by
 obtain ⟨t,ht,e⟩:=List.mem_map.1 h;obtain ⟨j,hj,h1,h2,h3⟩:=vr (fun t:af=>t.Name==s) d 0 ⟨t,ht,by simpa using e⟩;exact ⟨j,hj,by rw [fd,h1];simp,by simpa using h2,fun k hk=>by simpa using h3 k hk⟩
theorem h52 (d:List af) (hl:d.length≤1073741824):∀(xs:List af) (i:Nat) (o:List aS),d.drop i=xs→o.length≤i→Mo d o i=some ((xs.map (·.Name)).foldl (fun o s=>jP s o) o):=by
 intro xs
 induction xs with
 |nil=>intro i o h ho;refine T4 _ _ _ ?_;rw [aQ h];rfl
 |cons x xs ih=>
  intro i o h ho;refine T4 _ _ _ ?_;have:=bN h;have:=gF x.Name o;rw [aT h,cond_true,aM h,aN h hl,WK _ _ (by omega),ah,ih (i+1) _ (az h) (by omega)];rfl
theorem c52 (d:List af) (hl:d.length≤1073741824):f52 d=some (eU (cK d)):=e52 _ (h52 d hl d 0 [] rfl (by simp))
def kn (d:List af):Bool:=decide (d.length≤16)&&d.all fun t=>decide (t.aB.length≤20)&&decide (t.bz.length≤20)
theorem h38 (d:List af) (hl:d.length≤1073741824):∀(xs:List af) (i:Nat),d.drop i=xs→Mn d i=some (xs.all fun t=>decide (t.aB.length≤20)&&decide (t.bz.length≤20)):=by
 intro xs
 induction xs with
 |nil=>intro i h;refine TX _ _ ?_;rw [aQ h];rfl
 |cons x xs ih=>
  intro i h;refine TX _ _ ?_;rw [aT h,cond_true,aM h,aM h,aN h hl,ih (i+1) (az h),List.all_cons];by_cases h1:x.aB.length≤20
  ·rw [cond_neg (by simp;omega)]
   by_cases h2:x.bz.length≤20
   ·rw [cond_neg (by simp;omega)];simp [h1,h2]
   ·rw [cond_pos (by simp;omega)];simp [h1,h2]
  ·rw [cond_pos (by simp;omega)];simp [h1]
theorem c38 (d:List af):f38 d=some (kn d):=by
 refine e38 _ ?_;by_cases h:d.length≤16
 ·rw [cond_neg (by simp;omega)]
  have:=h38 d (by omega) d 0 rfl;simpa [kn,h] using this
 ·rw [cond_pos (by simp;omega)];simp [kn,h]
def zh (d:List af):Bool:=decide (d.length>256)||d.any fun t=>decide (t.aB.length>256)||decide (t.bz.length>256)
theorem h70 (d:List af) (hl:d.length≤1073741824):∀(xs:List af) (i:Nat),d.drop i=xs→Mr d i=some (if (xs.any fun t=>decide (t.aB.length>256)||decide (t.bz.length>256))=true then 7 else 0):=by
 intro xs
 induction xs with
 |nil=>intro i h;refine Uf _ _ ?_;rw [aQ h];rfl
 |cons x xs ih=>
  intro i h;refine Uf _ _ ?_;rw [aT h,cond_true,aM h,aM h,aN h hl,ih (i+1) (az h),List.any_cons];by_cases h1:x.aB.length>256
  ·rw [cond_pos (by simp;omega)];simp [h1]
  ·rw [cond_neg (by simp;omega)]
   by_cases h2:x.bz.length>256
   ·rw [cond_pos (by simp;omega)];simp [h2]
   ·rw [cond_neg (by simp;omega)]
    have e1:decide (x.aB.length>256)=false:=by simpa using h1
    have e2:decide (x.bz.length>256)=false:=by simpa using h2
    rw [e1,e2,Bool.false_or,Bool.false_or]
theorem c70 (d:List af):f70 d=some (if zh d=true then 7 else 0):=by
 refine e70 _ ?_;by_cases h:d.length>256
 ·rw [cond_pos (by simp;omega)];simp [zh,h]
 ·rw [cond_neg (by simp;omega)]
  have e:decide (d.length>256)=false:=by simpa using h
  rw [zh,e,Bool.false_or];exact h70 d (by omega) d 0 rfl
def dH (c:UInt8):Bool:=decide (48≤c.toNat)&&decide (c.toNat≤57)
def lowerB (c:UInt8):Bool:=decide (97≤c.toNat)&&decide (c.toNat≤122)
def isName (s:aS):Bool:=decide (1≤s.length)&&decide (s.length≤32)&& !dH (s.getD 0 0)&& !(s.getD 0 0).toNat==45&&s.all fun c=>dH c||c.toNat==45||lowerB c
theorem Sg (c:UInt8):f159 (c.toNat:Int)=some (dH c):=by
 refine e159 _ ?_;by_cases h:48≤c.toNat
 ·rw [cond_pos (by simp;omega)]
  simp only [dH,h,decide_true,Bool.true_and]
  congr 1;rw [decide_eq_decide];omega
 ·rw [cond_neg (by simp;omega)];simp [dH,h]
theorem c167 (c:UInt8):f167 (c.toNat:Int)=some (lowerB c):=by
 refine e167 _ ?_;by_cases h:97≤c.toNat
 ·rw [cond_pos (by simp;omega)]
  simp only [lowerB,h,decide_true,Bool.true_and]
  congr 1;rw [decide_eq_decide];omega
 ·rw [cond_neg (by simp;omega)];simp [lowerB,h]
theorem c160 (c:UInt8):f160 (c.toNat:Int) false=some (dH c||c.toNat==45||lowerB c):=by
 refine e160 _ _ ?_;rw [Sg,ah,c167,ah];cases dH c with
 |true=>rfl
 |false=>
  by_cases h:c.toNat=45
  ·rw [cond_false,cond_pos (by simp;omega)];simp [h]
  ·rw [cond_false,cond_neg (by simp;omega)];simp [h]
theorem h140 (s:aS) (hl:s.length≤1073741824):∀(xs:aS) (i:Nat),s.drop i=xs→Bv s false i=some (xs.all fun c=>dH c||c.toNat==45||lowerB c):=by
 intro xs
 induction xs with
 |nil=>intro i h;refine Eu _ _ _ ?_;rw [aQ h];rfl
 |cons x xs ih=>
  intro i h;refine Eu _ _ _ ?_;rw [aT h,cond_true,aM h,c160,ah,aN h hl,ih (i+1) (az h),List.all_cons];cases (dH x||x.toNat==45||lowerB x)<;>rfl
theorem c110 (s:aS):f110 s=some (isName s):=by
 refine e110 _ ?_;have:f140 s false=some (isName s):=by
  refine e140 _ _ ?_;by_cases h1:1≤s.length
  ·rw [cond_neg (by simp;omega)]
   by_cases h2:s.length≤32
   ·rw [cond_neg (by simp;omega),show (0:Int)=((0:Nat):Int) from rfl,cu (by omega),Sg,ah,cu (by omega),h140 s (by omega) s 0 rfl]
    have e0:s.getD 0 0=s[0]:=by rw [List.getD_eq_getElem?_getD,List.getElem?_eq_getElem (by omega)];rfl
    unfold isName;rw [e0];cases dH s[0] with
    |true=>simp [h1,h2]
    |false=>
     by_cases h3:s[0].toNat=45
     ·rw [cond_false,cond_pos (by simp;omega)];simp [h3]
     ·rw [cond_false,cond_neg (by simp;omega)];simp [h1,h2,h3]
   ·rw [cond_pos (by simp;omega)];simp [isName,h2]
  ·rw [cond_pos (by simp;omega)];simp [isName,h1]
 rw [this];rfl
def ko:List aS→List af→Int
 |_,[]=>0
 |seen,t::ts=>if isName t.Name=false then 1 else if t.Name∈seen then 4 else ko (seen++[t.Name]) ts
theorem Ty {d:List af} {i:Nat} {t:af} {ts:List af} (h:d.drop i=t::ts):fd d t.Name<(i:Int)↔t.Name∈(d.take i).map (·.Name):=by
 have hi:=bN h;have hti:d[i]? =some t:=aZ h;obtain ⟨j,hj,e,h1,h2⟩:=zz (d:=d) (s:=t.Name) (List.mem_map_of_mem (List.mem_of_getElem? hti));rw [e];constructor
 ·intro hlt
  have hlt':j<i:=by omega
  refine List.mem_map.2 ⟨d[j],?_,h1⟩;rw [List.mem_take_iff_getElem];exact ⟨j,by omega,rfl⟩
 ·intro hm
  obtain ⟨u,hu,eu⟩:=List.mem_map.1 hm;rw [List.mem_take_iff_getElem] at hu;obtain ⟨k,hk,rfl⟩:=hu;apply Classical.byContradiction;intro hc;exact h2 k (by omega) eu
theorem h71 (d:List af) (hl:d.length≤1073741824):∀(xs:List af) (i:Nat),d.drop i=xs→Ms d i=some (ko ((d.take i).map (·.Name)) xs):=by
 intro xs
 induction xs with
 |nil=>intro i h;refine Ug _ _ ?_;rw [aQ h];rfl
 |cons x xs ih=>
  intro i h;refine Ug _ _ ?_;have hd:d.take (i+1)=d.take i++[x]:=by
   rw [List.take_add_one,aZ h];rfl
  rw [aT h,cond_true,aM h,c110,ah,aM h,MN d _ hl,ah,aN h hl,ih (i+1) (az h),ko,hd];cases hn:isName x.Name with
  |false=>rfl
  |true=>
   rw [Bool.not_true,cond_false];by_cases hm:x.Name∈(d.take i).map (·.Name)
   ·rw [cond_pos (by simpa using (Ty h).2 hm)];simp only [Bool.true_eq_false,if_false,hm,if_true]
   ·rw [cond_neg (by simpa using fun hc=>hm ((Ty h).1 hc))];simp only [Bool.true_eq_false,if_false,hm,List.map_append,List.map_cons,List.map_nil]
theorem c71 (d:List af) (hl:d.length≤1073741824):f71 d=some (ko [] d):=e71 _ (h71 d hl d 0 rfl)
def N7 (ns:List aS):List aS→List aS→Int
 |_,[]=>0
 |seen,s::ss=>if s∉ns then 5 else if s∈seen then 4 else N7 ns (seen++[s]) ss
def kN (ns:List aS):List af→Int
 |[]=>0
 |t::ts=>if N7 ns [] t.aB=0 then kN ns ts else N7 ns [] t.aB
theorem h72b (d:List af) (hl:d.length≤1073741824) (i:Nat) (hi:i<d.length) (l:List aS) (IM:l.length≤1073741824) {r:Int} (hr:Im d (i+1:Nat)=some r):∀(xs:List aS) (k:Nat),l.drop k=xs→
  Mt d i l k=some (if N7 (cK d) (l.take k) xs=0 then r else N7 (cK d) (l.take k) xs):=by
 intro xs
 induction xs with
 |nil=>
  intro k h;refine Ui _ _ _ _ ?_;rw [aQ h,cond_false,bl (by omega),hr];rfl
 |cons x xs ih=>
  intro k h;refine Ui _ _ _ _ ?_;have hlt:=bN h;have hd:l.take (k+1)=l.take k++[x]:=by
   rw [List.take_add_one,aZ h];rfl
  rw [aT h,cond_true,aM h,MN d _ hl,ah,N7];by_cases hm:x∈cK d
  ·rw [cond_neg (by simpa using fun hc=>(Ej.1 hc) hm),qm (by omega),aM h,OF _ _ (by simp;omega),ah,aN h IM,ih (k+1) (az h),hd]
   have e:List.drop 0 (List.take (Int.toNat (k:Int)) l)=l.take k:=by simp
   rw [e];by_cases h2:x∈l.take k
   ·rw [cond_pos (by simpa using h2)];simp only [hm,not_true_eq_false,if_false,h2,if_true];rfl
   ·rw [cond_neg (by simpa using h2)];simp only [hm,not_true_eq_false,if_false,h2]
  ·rw [cond_pos (by simpa using Ej.2 hm)];simp only [hm,not_false_eq_true,if_true];rfl
theorem h72 (d:List af) (hl:d.length≤1073741824) (hs:∀t∈d,t.aB.length≤1073741824):∀(xs:List af) (i:Nat),d.drop i=xs→Im d i=some (kN (cK d) xs):=by
 intro xs
 induction xs with
 |nil=>intro i h;refine Uh _ _ ?_;rw [aQ h];rfl
 |cons x xs ih=>
  intro i h;refine Uh _ _ ?_;rw [aT h,cond_true,aM h];exact h72b d hl i (bN h) _ (hs x (List.mem_of_getElem? (aZ h))) (ih (i+1) (az h)) _ 0 rfl
theorem c72 (d:List af) (hl:d.length≤1073741824) (hs:∀t∈d,t.aB.length≤1073741824):f72 d=some (kN (cK d) d):=e72 _ (h72 d hl hs d 0 rfl)
theorem uw:∀(d:List af) (seen:List aS),ko seen d=0↔(∀t∈d,isName t.Name=true)∧(cK d).Nodup∧∀t∈d,t.Name∉seen:=by
 intro d
 induction d with
 |nil=>intro seen;simp [ko]
 |cons t d ih=>
  intro seen;unfold ko;cases hn:isName t.Name with
  |false=>simp [hn]
  |true=>
   by_cases hm:t.Name∈seen
   ·simp [hm]
   ·simp only [Bool.true_eq_false,if_false,hm,ih,List.mem_append,List.mem_singleton,List.map_cons,List.nodup_cons,List.mem_cons,not_or]
    constructor
    ·rintro ⟨h1,h2,h3⟩
     refine ⟨?_,⟨?_,h2⟩,?_⟩
     ·rintro u (rfl|hu)
      ·exact hn
      ·exact h1 u hu
     ·intro hc
      obtain ⟨u,hu,e⟩:=List.mem_map.1 hc;exact (h3 u hu).2.1 e
     ·rintro u (rfl|hu)
      ·exact hm
      ·exact (h3 u hu).1
    ·rintro ⟨h1,⟨h2,h3⟩,h4⟩
     refine ⟨fun u hu=>h1 u (.inr hu),h3,fun u hu=>⟨h4 u (.inr hu),fun e=>h2 (by rw [←e];exact List.mem_map_of_mem hu),by simp⟩⟩
theorem RL (ns:List aS):∀(l seen:List aS),N7 ns seen l=0↔(∀s∈l,s∈ns)∧l.Nodup∧∀s∈l,s∉seen:=by
 intro l
 induction l with
 |nil=>intro seen;simp [N7]
 |cons s l ih=>
  intro seen;unfold N7;by_cases hm:s∈ns
  ·by_cases h2:s∈seen
   ·simp [hm,h2]
   ·simp only [hm,not_true_eq_false,if_false,h2,ih,List.mem_append,List.mem_singleton,List.nodup_cons,List.mem_cons,not_or]
    constructor
    ·rintro ⟨h1,h3,h4⟩
     refine ⟨?_,⟨fun hc=>(h4 s hc).2.1 rfl,h3⟩,?_⟩
     ·rintro u (rfl|hu)
      ·exact hm
      ·exact h1 u hu
     ·rintro u (rfl|hu)
      ·exact h2
      ·exact (h4 u hu).1
    ·rintro ⟨h1,⟨h3,h4⟩,h5⟩
     exact ⟨fun u hu=>h1 u (.inr hu),h4,fun u hu=>⟨h5 u (.inr hu),fun e=>h3 (by rw [←e];exact hu),by simp⟩⟩
  ·simp [hm]
theorem nM (ns:List aS):∀(d:List af),kN ns d=0↔∀t∈d,(∀s∈t.aB,s∈ns)∧t.aB.Nodup:=by
 intro d
 induction d with
 |nil=>simp [kN]
 |cons t d ih=>
  unfold kN;have:=RL ns t.aB [];split
  ·rename_i h
   rw [ih];have h':=this.1 h;simp only [List.mem_cons,forall_eq_or_imp];exact ⟨fun hh=>⟨⟨h'.1,h'.2.1⟩,hh⟩,fun hh=>hh.2⟩
  ·rename_i h
   constructor
   ·intro hc;exact absurd hc h
   ·intro hh
    exact absurd (this.2 ⟨(hh t (by simp)).1,(hh t (by simp)).2,by simp⟩) h
end Go.Proofs.YtmidjldjkbljjaaGreatDoor.cl
