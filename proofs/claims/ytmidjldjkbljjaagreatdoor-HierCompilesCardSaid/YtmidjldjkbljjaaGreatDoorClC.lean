/- The Closure laws. -/
import Derived.Test.YtmidjldjkbljjaaGreatDoorClB
import Derived.Test.YtmidjldjkbljjaaGreatDoorClG
set_option linter.unusedVariables false
set_option linter.unusedSimpArgs false
set_option linter.unusedSectionVars false
namespace Go.Proofs.YtmidjldjkbljjaaGreatDoor.cl
open Go Go.AM
theorem h37 (l:List aT) (s:aT) (hl:l.length≤1073741824):∀(xs:List aT) (i:Nat),l.drop i=xs→NN l s i=some (decide (s∈xs)):=by
 intro xs
 induction xs with
 |nil=>intro i h;refine VP _ _ _ ?_;rw [aP h];simp
 |cons x xs ih=>
  intro i h;refine VP _ _ _ ?_;rw [aU h,cond_true,aL h,aM h hl,ih (i+1) (az h)];by_cases e:x=s
  ·subst e;rw [cond_pos (by simp)];simp
  ·rw [cond_neg (by simpa using e)]
   have:¬s=x:=fun h=>e h.symm
   simp [this]
theorem Qi (l:List aT) (s:aT) (hl:l.length≤1073741824):f37 l s=some (decide (s∈l)):=e37 _ _ (h37 l s hl l 0 rfl)
theorem h98 (l:List aT) (s:aT) (hl:l.length≤1073741824):∀(xs:List aT) (i:Nat),l.drop i=xs→i≤l.length→NV l s i []=some (l.take i++jV s xs):=by
 intro xs
 induction xs with
 |nil=>
  intro i h hle;refine Wq _ _ _ _ ?_;have hge:=dM h;obtain rfl:i=l.length:=by omega
  rw [aP h,cond_false,cond_false,qQ (Nat.le_refl _),aV (by simp;omega),aV (by simp;omega),qQ (Nat.le_refl _),aV (by simp;omega)];simp [jV]
 |cons x xs ih=>
  intro i h hle;refine Wq _ _ _ _ ?_;have hlt:=bL h;have hd:l.take (i+1)=l.take i++[x]:=by
   rw [List.take_add_one,aW h];rfl
  have hd2:(l.take l.length).drop i=x::xs:=by rw [List.take_length,h]
  rw [aU h,cond_true,aL h,cond_true,aL h,aM h hl,ih (i+1) (az h) (by omega),jV];cases hb:Op.bytesLess x s with
  |true=>simp [hd]
  |false=>
   rw [cond_false];by_cases e:x=s
   ·subst e
    rw [cond_pos (by simp)];simp only [if_pos,Bool.false_eq_true,if_false,←h,List.take_append_drop]
   ·rw [cond_neg (by simpa using e),qQ (by omega),cg _ (by simp) (by simp;omega) (by omega),cg _ (by simp;omega) (by simp) (by omega),qQ (by omega),cg _ (by simp;omega) (by simp;omega) (by omega),Int.toNat_natCast,hd2]
    simp [e]
theorem YH (l:List aT) (s:aT) (hl:l.length≤1073741824):f98 l s=some (jV s l):=e98 _ _ (by
 have:=h98 l s hl l 0 rfl (by omega)
 simpa using this)
theorem h111 (d:List af) (s:aT) (hl:d.length≤1073741824):∀(xs:List af) (i:Nat),d.drop i=xs→GB d s i=some (bI (fun t=>t.Name==s) xs i):=by
 intro xs
 induction xs with
 |nil=>intro i h;refine RL _ _ _ ?_;rw [aP h];rfl
 |cons x xs ih=>
  intro i h;refine RL _ _ _ ?_;rw [aU h,cond_true,aL h,aM h hl,ih (i+1) (az h),bI];cases x.Name==s<;>rfl
def fd (d:List af) (s:aT):Int:=bI (fun t=>t.Name==s) d 0
theorem Od (d:List af) (s:aT) (hl:d.length≤1073741824):f111 d s=some (fd d s):=e111 _ _ (h111 d s hl d 0 rfl)
abbrev cO (d:List af):List aT:=d.map (·.Name)
theorem Bs {α:Type} (p:α→Bool):∀(xs:List α) (i:Nat),bI p xs i<0↔∀x∈xs,p x=false:=by
 intro xs
 induction xs with
 |nil=>intro i;simp [bI]
 |cons x xs ih=>
  intro i;rw [bI];cases h:p x with
  |true=>simp [h]
  |false=>simp [h,ih (i+1)]
theorem wz {α:Type} (p:α→Bool):∀(xs:List α) (i:Nat),(∃x∈xs,p x=true)→∃j,∃h:j<xs.length,bI p xs i=((i+j:Nat):Int)∧p xs[j]=true∧∀k (hk:k<j),p (xs[k]'(by omega))=false:=by
 intro xs
 induction xs with
 |nil=>intro i h;obtain ⟨x,hx,_⟩:=h;cases hx
 |cons x xs ih=>
  intro i h;rw [bI];cases hp:p x with
  |true=>exact ⟨0,by simp,by simp,by simpa using hp,fun k hk=>by omega⟩
  |false=>
   obtain ⟨j,hj,e,h1,h2⟩:=ih (i+1) (by
    obtain ⟨y,hy,hpy⟩:=h;rcases List.mem_cons.1 hy with rfl|hy
    ·rw [hp] at hpy;cases hpy
    ·exact ⟨y,hy,hpy⟩)
   refine ⟨j+1,by simp;omega,?_,by simpa using h1,?_⟩
   ·simp only [Bool.false_eq_true,if_false,e];congr 1;omega
   ·intro k hk
    cases k with
    |zero=>simpa using hp
    |succ k=>simpa using h2 k (by omega)
theorem Ft {d:List af} {s:aT}:fd d s<0↔s∉cO d:=by
 rw [fd,Bs];constructor
 ·intro h hs
  obtain ⟨t,ht,e⟩:=List.mem_map.1 hs;have:=h t ht;simp [e] at this
 ·intro h t ht
  simp only [beq_eq_false_iff_ne,ne_eq];exact fun e=>h (e▸List.mem_map_of_mem ht)
theorem Av {d:List af} {s:aT} (h:s∈cO d):∃j,∃hj:j<d.length,fd d s=(j:Int)∧d[j].Name=s∧∀k (hk:k<j),(d[k]'(by omega)).Name≠s:=by
 obtain ⟨t,ht,e⟩:=List.mem_map.1 h;obtain ⟨j,hj,h1,h2,h3⟩:=wz (fun t:af=>t.Name==s) d 0 ⟨t,ht,by simpa using e⟩;exact ⟨j,hj,by rw [fd,h1];simp,by simpa using h2,fun k hk=>by simpa using h3 k hk⟩
theorem h52 (d:List af) (hl:d.length≤1073741824):∀(xs:List af) (i:Nat) (o:List aT),d.drop i=xs→o.length≤i→NQ d o i=some ((xs.map (·.Name)).foldl (fun o s=>jV s o) o):=by
 intro xs
 induction xs with
 |nil=>intro i o h ho;refine VV _ _ _ ?_;rw [aP h];rfl
 |cons x xs ih=>
  intro i o h ho;refine VV _ _ _ ?_;have:=bL h;have:=gH x.Name o;rw [aU h,cond_true,aL h,aM h hl,YH _ _ (by omega),ah,ih (i+1) _ (az h) (by omega)];rfl
theorem c52 (d:List af) (hl:d.length≤1073741824):f52 d=some (fo (cO d)):=e52 _ (h52 d hl d 0 [] rfl (by simp))
def mH (d:List af):Bool:=decide (d.length≤16)&&d.all fun t=>decide (t.aD.length≤20)&&decide (t.aR.length≤20)
theorem h38 (d:List af) (hl:d.length≤1073741824):∀(xs:List af) (i:Nat),d.drop i=xs→NO d i=some (xs.all fun t=>decide (t.aD.length≤20)&&decide (t.aR.length≤20)):=by
 intro xs
 induction xs with
 |nil=>intro i h;refine VQ _ _ ?_;rw [aP h];rfl
 |cons x xs ih=>
  intro i h;refine VQ _ _ ?_;rw [aU h,cond_true,aL h,aL h,aM h hl,ih (i+1) (az h),List.all_cons];by_cases h1:x.aD.length≤20
  ·rw [cond_neg (by simp;omega)]
   by_cases h2:x.aR.length≤20
   ·rw [cond_neg (by simp;omega)];simp [h1,h2]
   ·rw [cond_pos (by simp;omega)];simp [h1,h2]
  ·rw [cond_pos (by simp;omega)];simp [h1]
theorem c38 (d:List af):f38 d=some (mH d):=by
 refine e38 _ ?_;by_cases h:d.length≤16
 ·rw [cond_neg (by simp;omega)]
  have:=h38 d (by omega) d 0 rfl;simpa [mH,h] using this
 ·rw [cond_pos (by simp;omega)];simp [mH,h]
def uT (d:List af):Bool:=decide (d.length>256)||d.any fun t=>decide (t.aD.length>256)||decide (t.aR.length>256)
theorem h70 (d:List af) (hl:d.length≤1073741824):∀(xs:List af) (i:Nat),d.drop i=xs→NS d i=some (if (xs.any fun t=>decide (t.aD.length>256)||decide (t.aR.length>256))=true then 7 else 0):=by
 intro xs
 induction xs with
 |nil=>intro i h;refine Wb _ _ ?_;rw [aP h];rfl
 |cons x xs ih=>
  intro i h;refine Wb _ _ ?_;rw [aU h,cond_true,aL h,aL h,aM h hl,ih (i+1) (az h),List.any_cons];by_cases h1:x.aD.length>256
  ·rw [cond_pos (by simp;omega)];simp [h1]
  ·rw [cond_neg (by simp;omega)]
   by_cases h2:x.aR.length>256
   ·rw [cond_pos (by simp;omega)];simp [h2]
   ·rw [cond_neg (by simp;omega)]
    have e1:decide (x.aD.length>256)=false:=by simpa using h1
    have e2:decide (x.aR.length>256)=false:=by simpa using h2
    rw [e1,e2,Bool.false_or,Bool.false_or]
theorem c70 (d:List af):f70 d=some (if uT d=true then 7 else 0):=by
 refine e70 _ ?_;by_cases h:d.length>256
 ·rw [cond_pos (by simp;omega)];simp [uT,h]
 ·rw [cond_neg (by simp;omega)]
  have e:decide (d.length>256)=false:=by simpa using h
  rw [uT,e,Bool.false_or];exact h70 d (by omega) d 0 rfl
def dN (c:UInt8):Bool:=decide (48≤c.toNat)&&decide (c.toNat≤57)
def lowerB (c:UInt8):Bool:=decide (97≤c.toNat)&&decide (c.toNat≤122)
def isName (s:aT):Bool:=decide (1≤s.length)&&decide (s.length≤32)&& !dN (s.getD 0 0)&& !(s.getD 0 0).toNat==45&&s.all fun c=>dN c||c.toNat==45||lowerB c
theorem T8 (c:UInt8):f159 (c.toNat:Int)=some (dN c):=by
 refine e159 _ ?_;by_cases h:48≤c.toNat
 ·rw [cond_pos (by simp;omega)]
  simp only [dN,h,decide_true,Bool.true_and]
  congr 1;rw [decide_eq_decide];omega
 ·rw [cond_neg (by simp;omega)];simp [dN,h]
theorem c167 (c:UInt8):f167 (c.toNat:Int)=some (lowerB c):=by
 refine e167 _ ?_;by_cases h:97≤c.toNat
 ·rw [cond_pos (by simp;omega)]
  simp only [lowerB,h,decide_true,Bool.true_and]
  congr 1;rw [decide_eq_decide];omega
 ·rw [cond_neg (by simp;omega)];simp [lowerB,h]
theorem c160 (c:UInt8):f160 (c.toNat:Int) false=some (dN c||c.toNat==45||lowerB c):=by
 refine e160 _ _ ?_;rw [T8,ah,c167,ah];cases dN c with
 |true=>rfl
 |false=>
  by_cases h:c.toNat=45
  ·rw [cond_false,cond_pos (by simp;omega)];simp [h]
  ·rw [cond_false,cond_neg (by simp;omega)];simp [h]
theorem h140 (s:aT) (hl:s.length≤1073741824):∀(xs:aT) (i:Nat),s.drop i=xs→Cq s false i=some (xs.all fun c=>dN c||c.toNat==45||lowerB c):=by
 intro xs
 induction xs with
 |nil=>intro i h;refine FH _ _ _ ?_;rw [aP h];rfl
 |cons x xs ih=>
  intro i h;refine FH _ _ _ ?_;rw [aU h,cond_true,aL h,c160,ah,aM h hl,ih (i+1) (az h),List.all_cons];cases (dN x||x.toNat==45||lowerB x)<;>rfl
theorem c110 (s:aT):f110 s=some (isName s):=by
 refine e110 _ ?_;have:f140 s false=some (isName s):=by
  refine e140 _ _ ?_;by_cases h1:1≤s.length
  ·rw [cond_neg (by simp;omega)]
   by_cases h2:s.length≤32
   ·rw [cond_neg (by simp;omega),show (0:Int)=((0:Nat):Int) from rfl,bG (by omega),T8,ah,bG (by omega),h140 s (by omega) s 0 rfl]
    have e0:s.getD 0 0=s[0]:=by rw [List.getD_eq_getElem?_getD,List.getElem?_eq_getElem (by omega)];rfl
    unfold isName;rw [e0];cases dN s[0] with
    |true=>simp [h1,h2]
    |false=>
     by_cases h3:s[0].toNat=45
     ·rw [cond_false,cond_pos (by simp;omega)];simp [h3]
     ·rw [cond_false,cond_neg (by simp;omega)];simp [h1,h2,h3]
   ·rw [cond_pos (by simp;omega)];simp [isName,h2]
  ·rw [cond_pos (by simp;omega)];simp [isName,h1]
 rw [this];rfl
def kD:List aT→List af→Int
 |_,[]=>0
 |seen,t::ts=>if isName t.Name=false then 1 else if t.Name∈seen then 4 else kD (seen++[t.Name]) ts
theorem Vm {d:List af} {i:Nat} {t:af} {ts:List af} (h:d.drop i=t::ts):fd d t.Name<(i:Int)↔t.Name∈(d.take i).map (·.Name):=by
 have hi:=bL h;have hti:d[i]? =some t:=aW h;obtain ⟨j,hj,e,h1,h2⟩:=Av (d:=d) (s:=t.Name) (List.mem_map_of_mem (List.mem_of_getElem? hti));rw [e];constructor
 ·intro hlt
  have hlt':j<i:=by omega
  refine List.mem_map.2 ⟨d[j],?_,h1⟩;rw [List.mem_take_iff_getElem];exact ⟨j,by omega,rfl⟩
 ·intro hm
  obtain ⟨u,hu,eu⟩:=List.mem_map.1 hm;rw [List.mem_take_iff_getElem] at hu;obtain ⟨k,hk,rfl⟩:=hu;apply Classical.byContradiction;intro hc;exact h2 k (by omega) eu
theorem h71 (d:List af) (hl:d.length≤1073741824):∀(xs:List af) (i:Nat),d.drop i=xs→NT d i=some (kD ((d.take i).map (·.Name)) xs):=by
 intro xs
 induction xs with
 |nil=>intro i h;refine Wc _ _ ?_;rw [aP h];rfl
 |cons x xs ih=>
  intro i h;refine Wc _ _ ?_;have hd:d.take (i+1)=d.take i++[x]:=by
   rw [List.take_add_one,aW h];rfl
  rw [aU h,cond_true,aL h,c110,ah,aL h,Od d _ hl,ah,aM h hl,ih (i+1) (az h),kD,hd];cases hn:isName x.Name with
  |false=>rfl
  |true=>
   rw [Bool.not_true,cond_false];by_cases hm:x.Name∈(d.take i).map (·.Name)
   ·rw [cond_pos (by simpa using (Vm h).2 hm)];simp only [Bool.true_eq_false,if_false,hm,if_true]
   ·rw [cond_neg (by simpa using fun hc=>hm ((Vm h).1 hc))];simp only [Bool.true_eq_false,if_false,hm,List.map_append,List.map_cons,List.map_nil]
theorem c71 (d:List af) (hl:d.length≤1073741824):f71 d=some (kD [] d):=e71 _ (h71 d hl d 0 rfl)
def PJ (ns:List aT):List aT→List aT→Int
 |_,[]=>0
 |seen,s::ss=>if s∉ns then 5 else if s∈seen then 4 else PJ ns (seen++[s]) ss
def kZ (ns:List aT):List af→Int
 |[]=>0
 |t::ts=>if PJ ns [] t.aD=0 then kZ ns ts else PJ ns [] t.aD
theorem h72b (d:List af) (hl:d.length≤1073741824) (i:Nat) (hi:i<d.length) (l:List aT) (JT:l.length≤1073741824) {r:Int} (hr:JB d (i+1:Nat)=some r):∀(xs:List aT) (k:Nat),l.drop k=xs→
  NU d i l k=some (if PJ (cO d) (l.take k) xs=0 then r else PJ (cO d) (l.take k) xs):=by
 intro xs
 induction xs with
 |nil=>
  intro k h;refine We _ _ _ _ ?_;rw [aP h,cond_false,bh (by omega),hr];rfl
 |cons x xs ih=>
  intro k h;refine We _ _ _ _ ?_;have hlt:=bL h;have hd:l.take (k+1)=l.take k++[x]:=by
   rw [List.take_add_one,aW h];rfl
  rw [aU h,cond_true,aL h,Od d _ hl,ah,PJ];by_cases hm:x∈cO d
  ·rw [cond_neg (by simpa using fun hc=>(Ft.1 hc) hm),qQ (by omega),aL h,Qi _ _ (by simp;omega),ah,aM h JT,ih (k+1) (az h),hd]
   have e:List.drop 0 (List.take (Int.toNat (k:Int)) l)=l.take k:=by simp
   rw [e];by_cases h2:x∈l.take k
   ·rw [cond_pos (by simpa using h2)];simp only [hm,not_true_eq_false,if_false,h2,if_true];rfl
   ·rw [cond_neg (by simpa using h2)];simp only [hm,not_true_eq_false,if_false,h2]
  ·rw [cond_pos (by simpa using Ft.2 hm)];simp only [hm,not_false_eq_true,if_true];rfl
theorem h72 (d:List af) (hl:d.length≤1073741824) (hs:∀t∈d,t.aD.length≤1073741824):∀(xs:List af) (i:Nat),d.drop i=xs→JB d i=some (kZ (cO d) xs):=by
 intro xs
 induction xs with
 |nil=>intro i h;refine Wd _ _ ?_;rw [aP h];rfl
 |cons x xs ih=>
  intro i h;refine Wd _ _ ?_;rw [aU h,cond_true,aL h];exact h72b d hl i (bL h) _ (hs x (List.mem_of_getElem? (aW h))) (ih (i+1) (az h)) _ 0 rfl
theorem c72 (d:List af) (hl:d.length≤1073741824) (hs:∀t∈d,t.aD.length≤1073741824):f72 d=some (kZ (cO d) d):=e72 _ (h72 d hl hs d 0 rfl)
theorem nX:∀(d:List af) (seen:List aT),kD seen d=0↔(∀t∈d,isName t.Name=true)∧(cO d).Nodup∧∀t∈d,t.Name∉seen:=by
 intro d
 induction d with
 |nil=>intro seen;simp [kD]
 |cons t d ih=>
  intro seen;unfold kD;cases hn:isName t.Name with
  |false=>simp [hn]
  |true=>
   by_cases hm:t.Name∈seen
   ·simp [hm]
   ·simp only [Bool.true_eq_false,if_false,hm,ih,List.mem_append,List.mem_singleton,List.map_cons,List.nodup_cons,List.mem_cons,not_or]
    constructor
    ·rintro ⟨h1,h2,h3⟩
     refine ⟨?_,⟨?_,h2⟩,?_⟩
     ·rintro u (rfl|hu)
      ·exact hn
      ·exact h1 u hu
     ·intro hc
      obtain ⟨u,hu,e⟩:=List.mem_map.1 hc;exact (h3 u hu).2.1 e
     ·rintro u (rfl|hu)
      ·exact hm
      ·exact (h3 u hu).1
    ·rintro ⟨h1,⟨h2,h3⟩,h4⟩
     refine ⟨fun u hu=>h1 u (.inr hu),h3,fun u hu=>⟨h4 u (.inr hu),fun e=>h2 (by rw [←e];exact List.mem_map_of_mem hu),by simp⟩⟩
theorem TC (ns:List aT):∀(l seen:List aT),PJ ns seen l=0↔(∀s∈l,s∈ns)∧l.Nodup∧∀s∈l,s∉seen:=by
 intro l
 induction l with
 |nil=>intro seen;simp [PJ]
 |cons s l ih=>
  intro seen;unfold PJ;by_cases hm:s∈ns
  ·by_cases h2:s∈seen
   ·simp [hm,h2]
   ·simp only [hm,not_true_eq_false,if_false,h2,ih,List.mem_append,List.mem_singleton,List.nodup_cons,List.mem_cons,not_or]
    constructor
    ·rintro ⟨h1,h3,h4⟩
     refine ⟨?_,⟨fun hc=>(h4 s hc).2.1 rfl,h3⟩,?_⟩
     ·rintro u (rfl|hu)
      ·exact hm
      ·exact h1 u hu
     ·rintro u (rfl|hu)
      ·exact h2
      ·exact (h4 u hu).1
    ·rintro ⟨h1,⟨h3,h4⟩,h5⟩
     exact ⟨fun u hu=>h1 u (.inr hu),h4,fun u hu=>⟨h5 u (.inr hu),fun e=>h3 (by rw [←e];exact hu),by simp⟩⟩
  ·simp [hm]
theorem jX (ns:List aT):∀(d:List af),kZ ns d=0↔∀t∈d,(∀s∈t.aD,s∈ns)∧t.aD.Nodup:=by
 intro d
 induction d with
 |nil=>simp [kZ]
 |cons t d ih=>
  unfold kZ;have:=TC ns t.aD [];split
  ·rename_i h
   rw [ih];have h':=this.1 h;simp only [List.mem_cons,forall_eq_or_imp];exact ⟨fun hh=>⟨⟨h'.1,h'.2.1⟩,hh⟩,fun hh=>hh.2⟩
  ·rename_i h
   constructor
   ·intro hc;exact absurd hc h
   ·intro hh
    exact absurd (this.2 ⟨(hh t (by simp)).1,(hh t (by simp)).2,by simp⟩) h
end Go.Proofs.YtmidjldjkbljjaaGreatDoor.cl
