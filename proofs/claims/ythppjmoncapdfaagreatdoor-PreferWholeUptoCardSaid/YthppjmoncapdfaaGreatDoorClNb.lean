/- The Closure laws. -/
import Derived.Test.YthppjmoncapdfaaGreatDoorClG
import Derived.Lib.DecodeN
set_option linter.all false
namespace Go.Proofs.YthppjmoncapdfaaGreatDoor.cl
open Go Go.AM
theorem h37 (l:List cG) (s:cG) (hl:l.length≤1073741824):∀(xs:List cG) (i:Nat),l.drop i=xs→WE l s i=some (decide (s∈xs)):=by
 intro xs
 induction xs with
 |nil=>intro i h;refine k37_2 ?_;rw [bI h];simp
 |cons x xs ih=>
  intro i h;refine k37_2 ?_;rw [bH h,ai,aX h,bJ h hl,ih (i+1) (aN h)];by_cases e:x=s
  ·subst e;rw [cond_pos (by simp)];simp
  ·rw [cond_neg (by simpa using e)]
   have:¬s=x:=fun h=>e h.symm
   simp [this]
theorem Zt (l:List cG) (s:cG) (hl:l.length≤1073741824):f37 l s=some (decide (s∈l)):=e37 (h37 l s hl l 0 rfl)
theorem h98 (l:List cG) (s:cG) (hl:l.length≤1073741824):∀(xs:List cG) (i:Nat),l.drop i=xs→i≤l.length→WQ l s i []=some (l.take i++qH s xs):=by
 intro xs
 induction xs with
 |nil=>
  intro i h hle;refine k98_3 ?_;have hge:=jU h;obtain rfl:i=l.length:=by omega
  rw [bI h,aj,aj,Dz (aS _),bp (by simp;omega),bp (by simp;omega),Dz (aS _),bp (by simp;omega)];simp [qH]
 |cons x xs ih=>
  intro i h hle;refine k98_3 ?_;have hlt:=eo h;have hd:l.take (i+1)=l.take i++[x]:=by
   rw [c8,b9 h];rfl
  have hd2:(l.take l.length).drop i=x::xs:=by rw [gw,h]
  rw [bH h,ai,aX h,ai,aX h,bJ h hl,ih (i+1) (aN h) (by omega),qH];cases hb:Op.bytesLess x s with
  |true=>simp [hd]
  |false=>
   rw [aj];by_cases e:x=s
   ·subst e
    rw [cond_pos (by simp)];simp only [au,cW,ez,←h,kj]
   ·rw [cond_neg (by simpa using e),Dz (by omega),cz _ (by simp) (by simp;omega) (by omega),cz _ (by simp;omega) (by simp) (by omega),Dz (by omega),cz _ (by simp;omega) (by simp;omega) (by omega),aR,hd2]
    simp [e]
theorem c98 (l:List cG) (s:cG) (hl:l.length≤1073741824):f98 l s=some (qH s l):=e98 (by
 have:=h98 l s hl l 0 rfl (by omega)
 simpa using this)
theorem h111 (d:List aq) (s:cG) (hl:d.length≤1073741824):∀(xs:List aq) (i:Nat),d.drop i=xs→N9 d s i=some (gP (fun t=>t.Name==s) xs i):=by
 intro xs
 induction xs with
 |nil=>intro i h;refine aaI ?_;rw [bI h];rfl
 |cons x xs ih=>
  intro i h;refine aaI ?_;rw [bH h,ai,aX h,bJ h hl,ih (i+1) (aN h),gP];cases x.Name==s<;>rfl
def fd (d:List aq) (s:cG):Int:=gP (fun t=>t.Name==s) d 0
theorem Xh (d:List aq) (s:cG) (hl:d.length≤1073741824):f111 d s=some (fd d s):=e111 (h111 d s hl d 0 rfl)
abbrev jQ (d:List aq):List cG:=d.map (·.Name)
theorem aaC {α:Type} (p:α→Bool):∀(xs:List α) (i:Nat),gP p xs i<0↔∀x∈xs,p x=false:=by
 intro xs
 induction xs with
 |nil=>intro i;simp [gP]
 |cons x xs ih=>
  intro i;rw [gP];cases h:p x with
  |true=>simp [h]
  |false=>simp [h,ih (i+1)]
theorem VH {α:Type} (p:α→Bool):∀(xs:List α) (i:Nat),(∃x∈xs,p x=true)→∃j,∃h:j<xs.length,gP p xs i=((i+j:Nat):Int)∧p xs[j]=true∧∀k (hk:k<j),p (xs[k]'(by omega))=false:=by
 intro xs
 induction xs with
 |nil=>intro i h;obtain ⟨x,hx,_⟩:=h;cases hx
 |cons x xs ih=>
  intro i h;rw [gP];cases hp:p x with
  |true=>exact ⟨0,by simp,by simp,by simpa using hp,fun k hk=>by omega⟩
  |false=>
   obtain ⟨j,hj,e,h1,h2⟩:=ih (i+1) (by
    obtain ⟨y,hy,hpy⟩:=h;rcases aD.1 hy with rfl|hy
    ·rw [hp] at hpy;cases hpy
    ·exact ⟨y,hy,hpy⟩)
   refine ⟨j+1,by simp;omega,?_,by simpa using h1,?_⟩
   ·simp only [cW,ez,e];congr 1;omega
   ·intro k hk
    cases k with
    |zero=>simpa using hp
    |succ k=>simpa using h2 k (by omega)
theorem MA {d:List aq} {s:cG}:fd d s<0↔s∉jQ d:=by
 rw [fd,aaC];constructor
 ·intro h hs
  obtain ⟨t,ht,e⟩:=aB.1 hs;have:=h t ht;simp [e] at this
 ·intro h t ht
  simp only [gv,ne_eq];exact fun e=>h (e▸jc ht)
theorem G9 {d:List aq} {s:cG} (h:s∈jQ d):∃j,∃hj:j<d.length,fd d s=(j:Int)∧d[j].Name=s∧∀k (hk:k<j),(d[k]'(by omega)).Name≠s:=by
 obtain ⟨t,ht,e⟩:=aB.1 h;obtain ⟨j,hj,h1,h2,h3⟩:=VH (fun t:aq=>t.Name==s) d 0 ⟨t,ht,by simpa using e⟩;exact ⟨j,hj,by rw [fd,h1];simp,by simpa using h2,fun k hk=>by simpa using h3 k hk⟩
theorem h52 (d:List aq) (hl:d.length≤1073741824):∀(xs:List aq) (i:Nat) (o:List cG),d.drop i=xs→o.length≤i→WG d o i=some ((xs.map (·.Name)).foldl (fun o s=>qH s o) o):=by
 intro xs
 induction xs with
 |nil=>intro i o h ho;refine k52_3 ?_;rw [bI h];rfl
 |cons x xs ih=>
  intro i o h ho;refine k52_3 ?_;have:=eo h;have:=nj x.Name o;rw [bH h,ai,aX h,bJ h hl,c98 _ _ (by omega),aA,ih (i+1) _ (aN h) (by omega)];rfl
theorem c52 (d:List aq) (hl:d.length≤1073741824):f52 d=some (mD (jQ d)):=e52 (h52 d hl d 0 [] rfl (by simp))
def SA (d:List aq):Bool:=decide (d.length>256)||d.any fun t=>decide (t.dF.length>256)||decide (t.de.length>256)
theorem h70 (d:List aq) (hl:d.length≤1073741824):∀(xs:List aq) (i:Nat),d.drop i=xs→WM d i=some (if (xs.any fun t=>decide (t.dF.length>256)||decide (t.de.length>256))=true then 7 else 0):=by
 intro xs
 induction xs with
 |nil=>intro i h;refine k70_4 ?_;rw [bI h];rfl
 |cons x xs ih=>
  intro i h;refine k70_4 ?_;rw [bH h,ai,aX h,aX h,bJ h hl,ih (i+1) (aN h),oD];by_cases h1:x.dF.length>256
  ·rw [cond_pos (by simp;omega)];simp [h1]
  ·rw [cond_neg (by simp;omega)]
   by_cases h2:x.de.length>256
   ·rw [cond_pos (by simp;omega)];simp [h2]
   ·rw [cond_neg (by simp;omega)]
    have e1:decide (x.dF.length>256)=false:=by simpa using h1
    have e2:decide (x.de.length>256)=false:=by simpa using h2
    rw [e1,e2,iY,iY]
theorem c70 (d:List aq):f70 d=some (if SA d=true then 7 else 0):=by
 refine e70 ?_;by_cases h:d.length>256
 ·rw [cond_pos (by simp;omega)];simp [SA,h]
 ·rw [cond_neg (by simp;omega)]
  have e:decide (d.length>256)=false:=by simpa using h
  rw [SA,e,iY];exact h70 d (by omega) d 0 rfl
def oc (c:UInt8):Bool:=decide (48≤c.toNat)&&decide (c.toNat≤57)
def lowerB (c:UInt8):Bool:=decide (97≤c.toNat)&&decide (c.toNat≤122)
def isName (s:cG):Bool:=decide (1≤s.length)&&decide (s.length≤32)&& !oc (s.getD 0 0)&& !(s.getD 0 0).toNat==45&&s.all fun c=>oc c||c.toNat==45||lowerB c
theorem c159 (c:UInt8):f159 (c.toNat:Int)=some (oc c):=by
 refine e159 ?_;by_cases h:48≤c.toNat
 ·rw [cond_pos (by simp;omega)]
  simp only [oc,h,uo,fG]
  congr 1;rw [ny];omega
 ·rw [cond_neg (by simp;omega)];simp [oc,h]
theorem c167 (c:UInt8):f167 (c.toNat:Int)=some (lowerB c):=by
 refine e167 ?_;by_cases h:97≤c.toNat
 ·rw [cond_pos (by simp;omega)]
  simp only [lowerB,h,uo,fG]
  congr 1;rw [ny];omega
 ·rw [cond_neg (by simp;omega)];simp [lowerB,h]
theorem c160 (c:UInt8):f160 (c.toNat:Int) false=some (oc c||c.toNat==45||lowerB c):=by
 refine e160 ?_;rw [c159,aA,c167,aA];cases oc c with
 |true=>rfl
 |false=>
  by_cases h:c.toNat=45
  ·rw [aj,cond_pos (by simp;omega)];simp [h]
  ·rw [aj,cond_neg (by simp;omega)];simp [h]
theorem h140 (s:cG) (hl:s.length≤1073741824):∀(xs:cG) (i:Nat),s.drop i=xs→J7 s false i=some (xs.all fun c=>oc c||c.toNat==45||lowerB c):=by
 intro xs
 induction xs with
 |nil=>intro i h;refine M1 ?_;rw [bI h];rfl
 |cons x xs ih=>
  intro i h;refine M1 ?_;rw [bH h,ai,aX h,c160,aA,bJ h hl,ih (i+1) (aN h),gU];cases (oc x||x.toNat==45||lowerB x)<;>rfl
theorem c110 (s:cG):f110 s=some (isName s):=by
 refine e110 ?_;have:f140 s false=some (isName s):=by
  refine e140 ?_;by_cases h1:1≤s.length
  ·rw [cond_neg (by simp;omega)]
   by_cases h2:s.length≤32
   ·rw [cond_neg (by simp;omega),show (0:Int)=((0:Nat):Int) from rfl,cn (by omega),c159,aA,cn (by omega),h140 s (by omega) s 0 rfl]
    have e0:s.getD 0 0=s[0]:=by rw [aQ,aH (by omega)];rfl
    unfold isName;rw [e0];cases oc s[0] with
    |true=>simp [h1,h2]
    |false=>
     by_cases h3:s[0].toNat=45
     ·rw [aj,cond_pos (by simp;omega)];simp [h3]
     ·rw [aj,cond_neg (by simp;omega)];simp [h1,h2,h3]
   ·rw [cond_pos (by simp;omega)];simp [isName,h2]
  ·rw [cond_pos (by simp;omega)];simp [isName,h1]
 rw [this];rfl
def vV:List cG→List aq→Int
 |_,[]=>0
 |seen,t::ts=>if isName t.Name=false then 1 else if t.Name∈seen then 4 else vV (seen++[t.Name]) ts
theorem fd_lt {d:List aq} {i:Nat} {t:aq} {ts:List aq} (h:d.drop i=t::ts):fd d t.Name<(i:Int)↔t.Name∈(d.take i).map (·.Name):=by
 have hi:=eo h;have hti:d[i]? =some t:=b9 h;obtain ⟨j,hj,e,h1,h2⟩:=G9 (d:=d) (s:=t.Name) (jc (aT hti));rw [e];constructor
 ·intro hlt
  have hlt':j<i:=by omega
  refine aB.2 ⟨d[j],?_,h1⟩;rw [ur];exact ⟨j,by omega,rfl⟩
 ·intro hm
  obtain ⟨u,hu,eu⟩:=aB.1 hm;rw [ur] at hu;obtain ⟨k,hk,rfl⟩:=hu;apply dA;intro hc;exact h2 k (by omega) eu
theorem h71 (d:List aq) (hl:d.length≤1073741824):∀(xs:List aq) (i:Nat),d.drop i=xs→WN d i=some (vV ((d.take i).map (·.Name)) xs):=by
 intro xs
 induction xs with
 |nil=>intro i h;refine k71_2 ?_;rw [bI h];rfl
 |cons x xs ih=>
  intro i h;refine k71_2 ?_;have hd:d.take (i+1)=d.take i++[x]:=by
   rw [c8,b9 h];rfl
  rw [bH h,ai,aX h,c110,aA,aX h,Xh d _ hl,aA,bJ h hl,ih (i+1) (aN h),vV,hd];cases hn:isName x.Name with
  |false=>rfl
  |true=>
   rw [ic,aj];by_cases hm:x.Name∈(d.take i).map (·.Name)
   ·rw [cond_pos (by simpa using (fd_lt h).2 hm)];simp only [xZ,ez,hm,fN]
   ·rw [cond_neg (by simpa using fun hc=>hm ((fd_lt h).1 hc))];simp only [xZ,ez,hm,bT,aP,dV]
theorem c71 (d:List aq) (hl:d.length≤1073741824):f71 d=some (vV [] d):=e71 (h71 d hl d 0 rfl)
def spK (ns:List cG):List cG→List cG→Int
 |_,[]=>0
 |seen,s::ss=>if s∉ns then 5 else if s∈seen then 4 else spK ns (seen++[s]) ss
def xA (ns:List cG):List aq→Int
 |[]=>0
 |t::ts=>if spK ns [] t.dF=0 then xA ns ts else spK ns [] t.dF
theorem h72b (d:List aq) (hl:d.length≤1073741824) (i:Nat) (hi:i<d.length) (l:List cG) (MT:l.length≤1073741824) {r:Int} (hr:RV d (i+1:Nat)=some r):∀(xs:List cG) (k:Nat),l.drop k=xs→
  WO d i l k=some (if spK (jQ d) (l.take k) xs=0 then r else spK (jQ d) (l.take k) xs):=by
 intro xs
 induction xs with
 |nil=>
  intro k h;refine k72_6 ?_;rw [bI h,aj,bG (by omega),hr];rfl
 |cons x xs ih=>
  intro k h;refine k72_6 ?_;have hlt:=eo h;have hd:l.take (k+1)=l.take k++[x]:=by
   rw [c8,b9 h];rfl
  rw [bH h,ai,aX h,Xh d _ hl,aA,spK];by_cases hm:x∈jQ d
  ·rw [cond_neg (by simpa using fun hc=>(MA.1 hc) hm),Dz (by omega),aX h,Zt _ _ (by simp;omega),aA,bJ h MT,ih (k+1) (aN h),hd]
   have e:List.drop 0 (List.take (Int.toNat (k:Int)) l)=l.take k:=by simp
   rw [e];by_cases h2:x∈l.take k
   ·rw [cond_pos (by simpa using h2)];simp only [hm,qK,ez,h2,fN];rfl
   ·rw [cond_neg (by simpa using h2)];simp only [hm,qK,ez,h2]
  ·rw [cond_pos (by simpa using MA.2 hm)];simp only [hm,not_false_eq_true,fN];rfl
theorem h72 (d:List aq) (hl:d.length≤1073741824) (hs:∀t∈d,t.dF.length≤1073741824):∀(xs:List aq) (i:Nat),d.drop i=xs→RV d i=some (xA (jQ d) xs):=by
 intro xs
 induction xs with
 |nil=>intro i h;refine k72_2 ?_;rw [bI h];rfl
 |cons x xs ih=>
  intro i h;refine k72_2 ?_;rw [bH h,ai,aX h];exact h72b d hl i (eo h) _ (hs x (aT (b9 h))) (ih (i+1) (aN h)) _ 0 rfl
theorem c72 (d:List aq) (hl:d.length≤1073741824) (hs:∀t∈d,t.dF.length≤1073741824):f72 d=some (xA (jQ d) d):=e72 (h72 d hl hs d 0 rfl)
theorem Jp:∀(d:List aq) (seen:List cG),vV seen d=0↔(∀t∈d,isName t.Name=true)∧(jQ d).Nodup∧∀t∈d,t.Name∉seen:=by
 intro d
 induction d with
 |nil=>intro seen;simp [vV]
 |cons t d ih=>
  intro seen;unfold vV;cases hn:isName t.Name with
  |false=>simp [hn]
  |true=>
   by_cases hm:t.Name∈seen
   ·simp [hm]
   ·simp only [xZ,ez,hm,ih,bC,bP,aP,fE,aD,jx]
    constructor
    ·rintro ⟨h1,h2,h3⟩
     refine ⟨?_,⟨?_,h2⟩,?_⟩
     ·rintro u (rfl|hu)
      ·exact hn
      ·exact h1 u hu
     ·intro hc
      obtain ⟨u,hu,e⟩:=aB.1 hc;exact (h3 u hu).2.1 e
     ·rintro u (rfl|hu)
      ·exact hm
      ·exact (h3 u hu).1
    ·rintro ⟨h1,⟨h2,h3⟩,h4⟩
     refine ⟨fun u hu=>h1 u (.inr hu),h3,fun u hu=>⟨h4 u (.inr hu),fun e=>h2 (by rw [←e];exact jc hu),by simp⟩⟩
theorem acB (ns:List cG):∀(l seen:List cG),spK ns seen l=0↔(∀s∈l,s∈ns)∧l.Nodup∧∀s∈l,s∉seen:=by
 intro l
 induction l with
 |nil=>intro seen;simp [spK]
 |cons s l ih=>
  intro seen;unfold spK;by_cases hm:s∈ns
  ·by_cases h2:s∈seen
   ·simp [hm,h2]
   ·simp only [hm,qK,ez,h2,ih,bC,bP,fE,aD,jx]
    constructor
    ·rintro ⟨h1,h3,h4⟩
     refine ⟨?_,⟨fun hc=>(h4 s hc).2.1 rfl,h3⟩,?_⟩
     ·rintro u (rfl|hu)
      ·exact hm
      ·exact h1 u hu
     ·rintro u (rfl|hu)
      ·exact h2
      ·exact (h4 u hu).1
    ·rintro ⟨h1,⟨h3,h4⟩,h5⟩
     exact ⟨fun u hu=>h1 u (.inr hu),h4,fun u hu=>⟨h5 u (.inr hu),fun e=>h3 (by rw [←e];exact hu),by simp⟩⟩
  ·simp [hm]
theorem JU (ns:List cG):∀(d:List aq),xA ns d=0↔∀t∈d,(∀s∈t.dF,s∈ns)∧t.dF.Nodup:=by
 intro d
 induction d with
 |nil=>simp [xA]
 |cons t d ih=>
  unfold xA;have:=acB ns t.dF [];split
  ·rename_i h
   rw [ih];have h':=this.1 h;simp only [aD,forall_eq_or_imp];exact ⟨fun hh=>⟨⟨h'.1,h'.2.1⟩,hh⟩,fun hh=>hh.2⟩
  ·rename_i h
   constructor
   ·intro hc;exact absurd hc h
   ·intro hh
    exact absurd (this.2 ⟨(hh t (by simp)).1,(hh t (by simp)).2,by simp⟩) h
end Go.Proofs.YthppjmoncapdfaaGreatDoor.cl
namespace Go.Proofs.YthppjmoncapdfaaGreatDoor.cl
open Go Go.AM
theorem h112 (t:aq) (o:List cG) (ho:o.length≤1073741824) (ht:t.dF.length≤1073741824):∀(xs:List cG) (i:Nat),t.dF.drop i=xs→Oa o i t=some (xs.all fun s=>decide (s∈o)):=by
 intro xs
 induction xs with
 |nil=>intro i h;refine aaJ ?_;rw [bI h];rfl
 |cons x xs ih=>
  intro i h;refine aaJ ?_;rw [bH h,ai,aX h,Zt _ _ ho,aA,bJ h ht,ih (i+1) (aN h),gU];by_cases hx:x∈o<;>simp [hx]
theorem c112 (t:aq) (o:List cG) (ho:o.length≤1073741824) (ht:t.dF.length≤1073741824):f112 t o=some (t.dF.all fun s=>decide (s∈o)):=e112 (h112 t o ho ht _ 0 rfl)
structure Sz (d:List aq):Prop where
 len:d.length≤1048576
 sup:∀t∈d,t.dF.length≤1048576
structure Sk (d:List aq) (o:List cG):Prop where
 nd:o.Nodup
 sub:∀x∈o,x∈jQ d
 pre:∀i x,o[i]? =some x→∃t∈d,t.Name=x∧∀s∈t.dF,s∈o.take i
def Rdy (d:List aq) (o:List cG) (x:cG):Prop:=∃t∈d,t.Name=x∧x∉o∧∀s∈t.dF,s∈o
theorem Sk.len {d:List aq} {o:List cG} (h:Sk d o):o.length≤d.length:=by
 have:=js h.nd h.sub;simpa using this
theorem h73b {d:List aq} (z:Sz d) {o:List cG} (ho:o.length≤d.length):∀(xs:List aq) (i:Nat) (more:Bool) (next:cG),d.drop i=xs→(more=true→Rdy d o next)→
  ∃(Ag:Bool) (next':cG),(Ag=true→Rdy d o next')∧(Ag=false→∀t∈xs,t.Name∉o→∃s∈t.dF,s∉o)∧(more=true→Ag=true)∧
   ∀r,Kv d Ag (if Ag=true then o++[next'] else o)=some r→Ew d more next i o=some r:=by
 have hl:=z.len;intro xs
 induction xs with
 |nil=>
  intro i more next h hr
  refine ⟨more,next,hr,fun _ t ht=>(by cases ht),fun h=>h,fun r hh=> ?_⟩;refine VX ?_;rw [bI h,aj];cases more with
  |true=>rw [ai,cz _ (by omega) (by simp) (by omega)];rw [au rfl] at hh;exact hh
  |false=>rw [aj];rw [ak (by simp)] at hh;exact hh
 |cons x xs ih=>
  intro i more next h hr
  have hx:x∈d:=aT (b9 h);by_cases h1:x.Name∈o
  ·obtain ⟨m',n',a1,a2,a4,a3⟩:=ih (i+1) more next (aN h) hr
   refine ⟨m',n',a1,fun e t ht hn=> ?_,a4,fun r hh=> ?_⟩
   ·rcases aD.1 ht with rfl|ht
    ·exact absurd h1 hn
    ·exact a2 e t ht hn
   ·refine VX ?_
    rw [bH h,ai,aX h,Zt _ _ (by omega),aA,cond_pos (by simpa using h1),bJ h (by omega)];exact a3 r hh
  ·by_cases h2:∀s∈x.dF,s∈o
   ·have hrx:Rdy d o x.Name:=⟨x,hx,rfl,h1,h2⟩
    have KH:(x.dF.all fun s=>decide (s∈o))=true:=by
     rw [cg];intro s hs;simpa using h2 s hs
    have go:∀nx,Rdy d o nx→(more=false→nx=x.Name)→(more=true→nx=if Op.bytesLess x.Name next=true then x.Name else next)→∃(Ag:Bool) (next':cG),(Ag=true→Rdy d o next')∧(Ag=false→∀t∈x::xs,t.Name∉o→∃s∈t.dF,s∉o)∧(more=true→Ag=true)∧
      ∀r,Kv d Ag (if Ag=true then o++[next'] else o)=some r→Ew d more next i o=some r:=by
     intro nx hn e1 e2;obtain ⟨m',n',a1,a2,a4,a3⟩:=ih (i+1) true nx (aN h) (fun _=>hn);refine ⟨m',n',a1,fun e=>(by rw [a4 rfl] at e;cases e),fun _=>a4 rfl,fun r hh=> ?_⟩;have hh:=a3 r hh;refine VX ?_;rw [bH h,ai,aX h,Zt _ _ (by omega),aA,cond_neg (by simpa using h1),aX h,c112 _ _ (by omega) (by have:=z.sup x hx;omega),aA,KH,ic,aj];cases more with
     |false=>
      rw [pg,ai,aX h,bJ h (by omega)];rw [e1 rfl] at hh;exact hh
     |true=>
      rw [ic,aj,aX h,aX h,bJ h (by omega)];have:=e2 rfl;cases hb:Op.bytesLess x.Name next with
      |true=>rw [hb,au rfl] at this;rw [this] at hh;rw [ai];exact hh
      |false=>rw [hb] at this;simp only [cW,ez] at this;rw [this] at hh;rw [aj];exact hh
    cases hm:more with
    |false=>rw [hm] at go;exact go x.Name hrx (fun _=>rfl) (fun e=>by cases e)
    |true=>
     rw [hm] at go;refine go _ ?_ (fun e=>by cases e) (fun _=>rfl);split
     ·exact hrx
     ·exact hr hm
   ·obtain ⟨m',n',a1,a2,a4,a3⟩:=ih (i+1) more next (aN h) hr
    have KH:(x.dF.all fun s=>decide (s∈o))=false:=by
     apply dA;intro hc;rw [x7,cg] at hc;exact h2 fun s hs=>by simpa using hc s hs
    refine ⟨m',n',a1,fun e t ht hn=> ?_,a4,fun r hh=> ?_⟩
    ·rcases aD.1 ht with rfl|ht
     ·apply dA;intro hc
      exact h2 fun s hs=>dA fun Hi=>hc ⟨s,hs,Hi⟩
     ·exact a2 e t ht hn
    ·refine VX ?_
     rw [bH h,ai,aX h,Zt _ _ (by omega),aA,cond_neg (by simpa using h1),aX h,c112 _ _ (by omega) (by have:=z.sup x hx;omega),aA,KH,pg,ai,bJ h (by omega)];exact a3 r hh
theorem h73 {d:List aq} (z:Sz d):∀(n:Nat) (o:List cG),d.length-o.length=n→Sk d o→
  ∃out,Sk d out∧(∀t∈d,t.Name∉out→∃s∈t.dF,s∉out)∧Kv d true o=some out:=by
 intro n
 induction n with
 |zero=>
  intro o hn ho;have hlen:=ho.len;obtain ⟨m',n',a1,a2,a4,a3⟩:=h73b z hlen d 0 false [] rfl (fun e=>by cases e);cases m' with
  |false=>
   refine ⟨o,ho,a2 rfl,?_⟩;refine QE ?_;rw [ai];refine a3 _ ?_;refine QE ?_;simp
  |true=>
   obtain ⟨t,ht,e,hno,hs⟩:=a1 rfl
   have:(o++[n']).length≤(jQ d).length:=js (by
    rw [jq]
    exact ⟨ho.nd,by simp,fun a ha b hb=>by simp only [bP] at hb;subst hb;exact fun e=>hno (e▸ha)⟩) (fun x hx=>by
     rcases bC.1 hx with hx|hx
     ·exact ho.sub x hx
     ·simp only [bP] at hx;subst hx;rw [←e];exact jc ht)
   simp at this;omega
 |succ n ih=>
  intro o hn ho;have hlen:=ho.len;obtain ⟨m',n',a1,a2,a4,a3⟩:=h73b z hlen d 0 false [] rfl (fun e=>by cases e);cases m' with
  |false=>
   refine ⟨o,ho,a2 rfl,?_⟩;refine QE ?_;rw [ai];refine a3 _ ?_;refine QE ?_;simp
  |true=>
   obtain ⟨t,ht,e,hno,hs⟩:=a1 rfl;have hT:Sk d (o++[n']):=by
    refine ⟨?_,?_,?_⟩
    ·rw [jq]
     exact ⟨ho.nd,by simp,fun a ha b hb=>by simp only [bP] at hb;subst hb;exact fun e=>hno (e▸ha)⟩
    ·intro x hx
     rcases bC.1 hx with hx|hx
     ·exact ho.sub x hx
     ·simp only [bP] at hx;subst hx;rw [←e];exact jc ht
    ·intro i x hx
     by_cases hi:i<o.length
     ·rw [di hi] at hx
      obtain ⟨u,hu,e1,h1⟩:=ho.pre i x hx;exact ⟨u,hu,e1,fun s hs=>by rw [uu (by omega)];exact h1 s hs⟩
     ·have hi2:i=o.length:=by
       apply dA;intro hc;rw [fc (by simp;omega)] at hx;cases hx
      subst hi2;rw [gr (by omega),oZ] at hx;simp only [C8,aG] at hx;subst hx;exact ⟨t,ht,e,fun s hs'=>by rw [List.take_left'];exact hs s hs';rfl⟩
   obtain ⟨out,b1,b2,b3⟩:=ih (o++[n']) (by simp;omega) hT;refine ⟨out,b1,b2,?_⟩;refine QE ?_;rw [ai];exact a3 _ b3
theorem c73 {d:List aq} (z:Sz d):∃out,Sk d out∧(∀t∈d,t.Name∉out→∃s∈t.dF,s∉out)∧f73 d=some out:=by
 obtain ⟨out,h1,h2,h3⟩:=h73 z _ [] rfl ⟨by simp,fun x hx=>(by cases hx),fun i x hx=>(by simp at hx)⟩;exact ⟨out,h1,h2,e73 h3⟩
def BX (d:List aq):Prop:=∃r:cG→Nat,∀t∈d,∀s∈t.dF,r s<r t.Name
theorem JF {d:List aq} {o:List cG} (hn:(jQ d).Nodup) (ho:Sk d o) (hf:∀t∈d,t.Name∈o):BX d:=by
 refine ⟨fun x=>o.idxOf x,fun t ht s hs=> ?_⟩;have hm:=hf t ht;have hi:o.idxOf t.Name<o.length:=List.idxOf_lt_length_iff.2 hm;have og:o[o.idxOf t.Name]? =some t.Name:=by
  rw [aH hi,List.getElem_idxOf hi]
 obtain ⟨u,hu,e,hpre⟩:=ho.pre _ _ og;have hut:u=t:=by
  obtain ⟨i,hi1,rfl⟩:=iL.1 hu;obtain ⟨j,hj1,rfl⟩:=iL.1 ht;have:(jQ d)[i]'(by simpa using hi1)=(jQ d)[j]'(by simpa using hj1):=by simpa using e
  have:=(rB hn).1 this;subst this;rfl
 subst hut;have:=hpre s hs;rw [ur] at this;obtain ⟨k,hk,rfl⟩:=this;show o.idxOf o[k]<_;have h1:o.idxOf o[k]=k:=ho.nd.idxOf_getElem k (by omega);have h2:k<o.idxOf u.Name:=by omega
 rw [h1];exact h2
theorem IT {d:List aq} {o:List cG} (hdec:∀t∈d,∀s∈t.dF,s∈jQ d) (Ts:∀t∈d,t.Name∉o→∃s∈t.dF,s∉o) (hr:BX d):∀t∈d,t.Name∈o:=by
 obtain ⟨r,hr⟩:=hr;have key:∀(n:Nat) (t:aq),t∈d→r t.Name=n→t.Name∈o:=by
  intro n
  induction n using Nat.strongRecOn with
  |_ n ih=>
   intro t ht e;apply dA;intro hc;obtain ⟨s,hs,hso⟩:=Ts t ht hc;obtain ⟨u,hu,rfl⟩:=aB.1 (hdec t ht s hs);have:=hr t ht _ hs;exact hso (ih (r u.Name) (by omega) u hu rfl)
 exact fun t ht=>key _ t ht rfl
def CH (d:List aq):Nat:=(d.filter fun t=>t.dF.length==0).length
open Classical in
noncomputable def ID (d:List aq):Int:=
 if SA d=true then 7 else if vV [] d≠0 then vV [] d else if xA (jQ d) d≠0 then xA (jQ d) d else if CH d≠1 then 1 else if BX d then 0 else 6
theorem h32 {d:List aq} (z:Sz d) (h1:vV [] d=0) (h2:xA (jQ d) d=0):∀(xs:List aq) (i n:Nat),d.drop i=xs→n≤i→
  J9 d n i=some (open Classical in if n+CH xs≠1 then 1 else if BX d then 0 else 6):=by
 have hl:=z.len;intro xs
 induction xs with
 |nil=>
  intro i n h hn;refine aaT ?_;obtain ⟨out,b1,b2,b3⟩:=c73 z;have hnd:=((Jp d []).1 h1).2.1;have hdec:∀t∈d,∀s∈t.dF,s∈jQ d:=fun t ht=>((JU _ d).1 h2 t ht).1
  rw [bI h,aj];have e0:n+CH []=n:=rfl;rw [e0];by_cases hn1:n=1
  ·rw [cond_neg (by simp;omega),b3,aA,ak (by omega)]
   by_cases hr:BX d
   ·have hfull:=IT hdec b2 hr
    have:(jQ d).length≤out.length:=js hnd fun x hx=>by
     obtain ⟨t,ht,rfl⟩:=aB.1 hx;exact hfull t ht
    simp only [aW] at this;rw [cond_neg (by simp;omega),au hr]
   ·have:out.length<d.length:=by
     apply dA;intro hc;apply hr;refine JF hnd b1 fun t ht=> ?_
     exact Uh b1.nd b1.sub (by simp;omega) _ (jc ht)
    rw [cond_pos (by simp;omega),ak hr]
  ·rw [cond_pos (by simp;omega),au hn1]
 |cons x xs ih=>
  intro i n h hn;refine aaT ?_;have hlt:=eo h;rw [bH h,ai,aX h,bJ h (by omega),bG (by omega)];by_cases hx:x.dF.length=0
  ·rw [cond_pos (by simpa using hx),ih (i+1) (n+1) (aN h) (by omega)]
   have:CH (x::xs)=CH xs+1:=by simp [CH,fH,hx]
   rw [this,show n+1+CH xs=n+(CH xs+1) by omega]
  ·rw [cond_neg (by simpa using hx),ih (i+1) n (aN h) (by omega)]
   have:CH (x::xs)=CH xs:=by
    have:(x.dF.length==0)=false:=by simpa using hx
    simp [CH,fH,this]
   rw [this]
theorem c32 {d:List aq} (z:Sz d):f32 d=some (ID d):=by
 have hl:=z.len;refine e32 ?_;rw [c70,aA,c71 d (by omega),aA,c72 d (by omega) (fun t ht=>by have:=z.sup t ht;omega),aA];unfold ID;by_cases h0:SA d=true
 ·rw [au h0,au h0];rfl
 ·rw [ak h0,ak h0]
  by_cases h1:vV [] d=0
  ·by_cases h2:xA (jQ d) d=0
   ·have:=h32 z h1 h2 d 0 0 rfl (by omega)
    rw [h1,h2,ak (by simp),ak (by simp)];simpa using this
   ·rw [au h2,h1,ak (by simp)]
    rw [cond_neg (by simp),cond_neg (by simp),cond_pos (by simpa using h2)]
  ·rw [au h1,cond_neg (by simp),cond_pos (by simpa using h1)]
structure Acc (d:List aq):Prop where
 nd:(jQ d).Nodup
 name:∀t∈d,isName t.Name=true
 dec:∀t∈d,∀s∈t.dF,s∈jQ d
 top:CH d=1
 rk:BX d
theorem HZ {d:List aq} (h:ID d=0):Acc d:=by
 unfold ID at h;split at h
 ·cases h
 split at h
 ·rename_i h1;exact absurd h h1
 split at h
 ·rename_i h1;exact absurd h h1
 split at h
 ·cases h
 split at h
 ·rename_i h0 h1 h2 h3 h4
  have MO:vV [] d=0:=dA h1;have KH:xA (jQ d) d=0:=dA h2;obtain ⟨a1,a2,_⟩:=(Jp d []).1 MO;exact ⟨a2,a1,fun t ht=>((JU _ d).1 KH t ht).1,dA h3,h4⟩
 ·cases h
end Go.Proofs.YthppjmoncapdfaaGreatDoor.cl
namespace Go.Proofs.YthppjmoncapdfaaGreatDoor.cl
open Go Go.AM
def dn (d:List aq) (x:cG):List cG:=(d.filter fun t=>decide (x∈t.dF)).map (·.Name)
def up (d:List aq) (x:cG):List cG:=match d.find? (fun t=>t.Name==x) with
 |some t=>t.dF
 |none=>[]
theorem Jk {d:List aq} {x y:cG}:y∈dn d x↔∃t∈d,t.Name=y∧x∈t.dF:=by
 simp only [dn,aB,cL,iZ];exact ⟨fun ⟨t,⟨h1,h2⟩,h3⟩=>⟨t,h1,h3,h2⟩,fun ⟨t,h1,h3,h2⟩=>⟨t,⟨h1,h2⟩,h3⟩⟩
theorem S4 {d:List aq} {x y:cG} (h:y∈dn d x):y∈jQ d:=by
 obtain ⟨t,ht,e,_⟩:=Jk.1 h;exact e▸jc ht
theorem nd_eq {d:List aq} (hn:(jQ d).Nodup) {t u:aq} (ht:t∈d) (hu:u∈d) (e:t.Name=u.Name):t=u:=by
 obtain ⟨i,hi1,rfl⟩:=iL.1 ht;obtain ⟨j,hj1,rfl⟩:=iL.1 hu;have:(jQ d)[i]'(by simpa using hi1)=(jQ d)[j]'(by simpa using hj1):=by simpa using e
 have:=(rB hn).1 this;subst this;rfl
theorem acJ {d:List aq} (hn:(jQ d).Nodup) {t:aq} (ht:t∈d):up d t.Name=t.dF:=by
 unfold up;cases e:d.find? (fun u=>u.Name==t.Name) with
 |none=>
  rw [uj] at e;exact absurd (e t ht) (by simp)
 |some u=>
  have h1:=oW e;have h2:=oV e;rw [nd_eq hn h2 ht (by simpa using h1)]
theorem abR {d:List aq} (hn:(jQ d).Nodup) {x y:cG} (hx:x∈jQ d):y∈up d x↔x∈dn d y:=by
 obtain ⟨t,ht,rfl⟩:=aB.1 hx;rw [acJ hn ht,Jk];constructor
 ·intro h;exact ⟨t,ht,rfl,h⟩
 ·rintro ⟨u,hu,e,h⟩
  rw [nd_eq hn hu ht e] at h;exact h
abbrev Le (d:List aq) (x y:cG):Prop:=sN (dn d) x y
theorem Rx {d:List aq} (A:Acc d) {x y:cG} (hx:x∈jQ d) (h:sN (up d) x y):y∈jQ d∧Le d y x:=by
 induction h with
 |refl=>exact ⟨hx, .refl⟩
 | @step y z h1 hz ih=>
  obtain ⟨hy,hl⟩:=ih;refine ⟨?_,?_⟩
  ·obtain ⟨t,ht,e⟩:=aB.1 hy
   subst e;rw [acJ A.nd ht] at hz;exact A.dec t ht _ hz
  ·exact sN.trans (.step .refl ((abR A.nd hy).1 hz)) hl
theorem sN.head {next:cG→List cG} {x y z:cG} (h1:y∈next x) (h2:sN next y z):sN next x z:=sN.trans (.step .refl h1) h2
theorem acK {d:List aq} (A:Acc d) {x y:cG} (h:Le d y x):sN (up d) x y:=by
 induction h with
 |refl=>exact .refl
 | @step u v h1 hz ih=>exact sN.head ((abR A.nd (S4 hz)).2 hz) ih
theorem NM {d:List aq} (A:Acc d) {x y:cG} (hx:x∈jQ d):sN (up d) x y↔Le d y x:=⟨fun h=>(Rx A hx h).2,acK A⟩
theorem Na {d:List aq} {r:cG→Nat} (hr:∀t∈d,∀s∈t.dF,r s<r t.Name) {x y:cG} (h:Le d x y):x=y∨r x<r y:=by
 induction h with
 |refl=>exact .inl rfl
 |step _ hz ih=>
  obtain ⟨t,ht,rfl,hs⟩:=Jk.1 hz;have:=hr t ht _ hs;rcases ih with rfl|h
  ·exact .inr this
  ·exact .inr (by omega)
theorem le_antisymm {d:List aq} (A:Acc d) {x y:cG} (h1:Le d x y) (h2:Le d y x):x=y:=by
 obtain ⟨r,hr⟩:=A.rk;rcases Na hr h1 with h|h
 ·exact h
 ·rcases Na hr h2 with h'|h'
  ·exact h'.symm
  ·omega
theorem root {d:List aq} (A:Acc d):∃t∈jQ d,∀y∈jQ d,Le d t y:=by
 have htop:=A.top;unfold CH at htop;obtain ⟨t,ht⟩:=List.length_eq_one_iff.1 htop;have htm:t∈d.filter (fun t=>t.dF.length==0):=by rw [ht];simp
 refine ⟨t.Name,jc (cL.1 htm).1,?_⟩;obtain ⟨r,hr⟩:=A.rk;have key:∀(n:Nat) (u:aq),u∈d→r u.Name=n→Le d t.Name u.Name:=by
  intro n
  induction n using Nat.strongRecOn with
  |_ n ih=>
   intro u hu e;cases hs:u.dF with
   |nil=>
    have:u∈d.filter (fun t=>t.dF.length==0):=cL.2 ⟨hu,by simp [hs]⟩;rw [ht,bP] at this;subst this;exact .refl
   |cons s l=>
    have hsu:s∈u.dF:=by rw [hs];simp
    obtain ⟨v,hv,rfl⟩:=aB.1 (A.dec u hu s hsu);have:=hr u hu _ hsu;exact .step (ih (r v.Name) (by omega) v hv rfl) (Jk.2 ⟨u,hu,rfl,hsu⟩)
 intro y hy;obtain ⟨u,hu,rfl⟩:=aB.1 hy;exact key _ u hu rfl
theorem h99b {d:List aq} (z:Sz d) {i:Nat} {x:cG}:∀(xs:List aq) (k:Nat) (o:List cG),d.drop k=xs→o[i]? =some x→o.length+xs.length≤2097152→∀r,
  RW d (i+1:Nat) (iX o ((xs.filter fun t=>decide (x∈t.dF)).map (·.Name)))=some r→L3 d i k o=some r:=by
 have hl:=z.len;intro xs
 induction xs with
 |nil=>
  intro k o h hx hlen r hr;refine k99_8 ?_;have hi:=(bD.1 hx).1;rw [bI h,aj,bG (by omega)];exact hr
 |cons t xs ih=>
  intro k o h hx hlen r hr;refine k99_8 ?_;have hi:=(bD.1 hx).1;have ht:t∈d:=aT (b9 h);have hsup:=z.sup t ht;simp only [bg] at hlen;rw [bH h,ai,aX h,SU hi,aR,iD hx,Zt _ _ (by omega),aA,bJ h (by omega),aX h,Zt _ _ (by omega),aA,aX h];rw [fH] at hr;by_cases h1:x∈t.dF
  ·rw [cond_pos (by simpa using h1)]
   rw [au (by simpa using h1),aP] at hr;by_cases h2:t.Name∈o
   ·rw [cond_neg (by simpa using h2)]
    refine ih (k+1) o (aN h) hx (by omega) r ?_;have e:iX o (t.Name::(List.filter (fun t=>decide (x∈t.dF)) xs).map (·.Name))=iX o ((List.filter (fun t=>decide (x∈t.dF)) xs).map (·.Name)):=by simp [iX,h2]
    rw [e] at hr;exact hr
   ·rw [cond_pos (by simpa using h2),cz _ (by omega) (by simp) (by omega)]
    refine ih (k+1) (o++[t.Name]) (aN h) (by rw [di hi];exact hx) (by simp;omega) r ?_;have e:iX o (t.Name::(List.filter (fun t=>decide (x∈t.dF)) xs).map (·.Name))=iX (o++[t.Name]) ((List.filter (fun t=>decide (x∈t.dF)) xs).map (·.Name)):=by simp [iX,h2]
    rw [e] at hr;exact hr
  ·rw [cond_neg (by simpa using h1)]
   rw [ak (by simpa using h1)] at hr;exact ih (k+1) o (aN h) hx (by omega) r hr
theorem h99c (o:List cG) (ho:o.length≤1073741824):∀(xs:List cG) (i:Nat) (out:List cG),o.drop i=xs→out.length≤i→FA out i o=some (xs.foldl (fun o s=>qH s o) out):=by
 intro xs
 induction xs with
 |nil=>intro i out h hi;refine abL ?_;rw [bI h];rfl
 |cons x xs ih=>
  intro i out h hi;refine abL ?_;have hlt:=eo h;have:=nj x out;rw [bH h,ai,DA h,Dp h,c98 _ _ (by omega),aA,bJ h ho,ih (i+1) _ (aN h) (by omega)];rfl
theorem c99 {d:List aq} (z:Sz d) {x:cG} (hx:x∈jQ d):∃l,f99 d x=some l∧SS l∧(∀y,y∈l↔Le d x y)∧l.length≤d.length:=by
 have hl:=z.len;obtain ⟨o,h1,h2,h3,h4⟩:=search (next:=dn d) (U:=jQ d) (x0:=x) hx (fun x _ y hy=>S4 hy) (R:=R99.T) (outer:=fun i o=>RW d i o) (fin:=fun o=>FA [] 0 o)
  (fun i o ho hi r hr=>by
   refine k99_5 ?_
   rw [cond_neg (by simp;omega)];exact hr)
  (fun i o y ho hlen hy _ r hr=>by
   have hi:=(bD.1 hy).1;refine k99_5 ?_;rw [cond_pos (by simp;omega)];simp only [aW] at ho
   exact h99b z d 0 o rfl hy (by omega) r hr)
 simp only [aW] at h3;have hs:FA [] 0 o=some (mD o):=h99c o (by omega) o 0 [] rfl (by simp);refine ⟨mD o,?_,lZ o,fun y=>by rw [gB,h2],by have:=pZ o;omega⟩;refine e99 ?_;obtain ⟨j,hj,e,_⟩:=G9 hx;rw [Xh d _ (by omega),aA,e,cond_neg (by simp)];exact h4 _ hs
theorem h138b {d:List aq} (z:Sz d) {i:Nat} {l:List cG} (MT:l.length≤1048576):∀(xs:List cG) (k:Nat) (o:List cG),l.drop k=xs→i<o.length→o.length+xs.length≤2097152→∀r,
  J4 d (i+1:Nat) (iX o xs)=some r→J5 d i l k o=some r:=by
 have hl:=z.len;intro xs
 induction xs with
 |nil=>
  intro k o h hi hlen r hr;refine aaM ?_;rw [bI h,aj,bG (by omega)];exact hr
 |cons s xs ih=>
  intro k o h hi hlen r hr;refine aaM ?_;simp only [bg] at hlen;rw [bH h,ai,aX h,Zt _ _ (by omega),aA,bJ h (by omega),aX h];by_cases h2:s∈o
  ·rw [cond_neg (by simpa using h2)]
   refine ih (k+1) o (aN h) hi (by omega) r ?_;have e:iX o (s::xs)=iX o xs:=by simp [iX,h2]
   rw [e] at hr;exact hr
  ·rw [cond_pos (by simpa using h2),cz _ (by omega) (by simp) (by omega)]
   refine ih (k+1) (o++[s]) (aN h) (by simp;omega) (by simp;omega) r ?_;have e:iX o (s::xs)=iX (o++[s]) xs:=by simp [iX,h2]
   rw [e] at hr;exact hr
theorem h138c (o:List cG) (ho:o.length≤1073741824):∀(xs:List cG) (i:Nat) (out:List cG),o.drop i=xs→out.length≤i→Bk out i o=some (xs.foldl (fun o s=>qH s o) out):=by
 intro xs
 induction xs with
 |nil=>intro i out h hi;refine VJ ?_;rw [bI h];rfl
 |cons x xs ih=>
  intro i out h hi;refine VJ ?_;have hlt:=eo h;have:=nj x out;rw [bH h,ai,DA h,Dp h,c98 _ _ (by omega),aA,bJ h ho,ih (i+1) _ (aN h) (by omega)];rfl
theorem c138 {d:List aq} (z:Sz d) (A:Acc d) {x:cG} (hx:x∈jQ d):∃l,f138 d x=some l∧SS l∧(∀y,y∈l↔Le d y x)∧l.length≤d.length:=by
 have hl:=z.len;obtain ⟨o,h1,h2,h3,h4⟩:=search (next:=up d) (U:=jQ d) (x0:=x) hx (fun x hx y hy=>(Rx A hx (.step .refl hy)).1) (R:=R138.T) (outer:=fun i o=>J4 d i o) (fin:=fun o=>Bk [] 0 o)
  (fun i o ho hi r hr=>by
   refine aaL ?_
   rw [cond_neg (by simp;omega)];exact hr)
  (fun i o y ho hlen hy hyU r hr=>by
   have hi:=(bD.1 hy).1;refine aaL ?_;obtain ⟨j,hj,e,hn,_⟩:=G9 hyU;simp only [aW] at ho;rw [cond_pos (by simp;omega),SU hi,aR,iD hy,Xh d _ (by omega),aA,e,cn hj];have hsup:=z.sup _ (bF hj);refine h138b z (by omega) d[j].dF 0 o rfl hi (by omega) r ?_;have e2:up d y=d[j].dF:=by rw [←hn];exact acJ A.nd (bF hj)
   rw [←e2];exact hr)
 simp only [aW] at h3;have hs:Bk [] 0 o=some (mD o):=h138c o (by omega) o 0 [] rfl (by simp);refine ⟨mD o,?_,lZ o,fun y=>by rw [gB,h2,NM A hx],by have:=pZ o;omega⟩;refine e138 ?_;obtain ⟨j,hj,e,_⟩:=G9 hx;rw [Xh d _ (by omega),aA,e,cond_neg (by simp)];exact h4 _ hs
theorem h137 {d:List aq} (z:Sz d) (l:List cG) (MT:l.length≤1048576):∀(xs:List cG) (i:Nat) (out:List cG),l.drop i=xs→out.length≤i→JZ d l out i=some ((xs.filter fun s=>decide (s∈jQ d)).foldl (fun o s=>qH s o) out):=by
 have hl:=z.len;intro xs
 induction xs with
 |nil=>intro i out h hi;refine aaK ?_;rw [bI h];rfl
 |cons x xs ih=>
  intro i out h hi;refine aaK ?_;have hlt:=eo h;have:=nj x out;rw [bH h,ai,aX h,Xh d _ (by omega),aA,bJ h (by omega),aX h,fH];by_cases hm:x∈jQ d
  ·have hge:fd d x≥0:=by
    apply dA;intro hc;exact MA.1 (by omega) hm
   rw [cond_pos (by simpa using hge),c98 _ _ (by omega),aA,ih (i+1) _ (aN h) (by omega),au (by simpa using hm)];rfl
  ·have hneg:=MA.2 hm
   rw [cond_neg (by simpa using hneg),ih (i+1) _ (aN h) (by omega),ak (by simpa using hm)]
theorem c137 {d:List aq} (z:Sz d) (l:List cG) (MT:l.length≤1048576):f137 d l=some (mD (l.filter fun s=>decide (s∈jQ d))):=e137 (h137 z l MT l 0 [] rfl (by simp))
open Classical in
noncomputable def rI (d:List aq) (all:List cG) (x:cG):Bool:=all.all fun y=>decide (y=x)|| !decide (Le d y x)
theorem h104b {d:List aq} (z:Sz d) {all up:List cG} {i:Nat} {x:cG} (hi:all[i]? =some x) (hnd:all.Nodup) (hall:all.length≤1048576) (hup:up.length≤1048576) (hU:∀y,y∈up↔Le d y x) {o:List cG} (ho:o.length≤1048576) {r:List cG}:
  ∀(xs:List cG) (k:Nat) (free:Bool),all.drop k=xs→
  Ft d all (i+1:Nat) (if (free&&rI d xs x)=true then o++[x] else o)=some r→Fu d all i up free k o=some r:=by
 intro xs;have hil:=(bD.1 hi).1
 induction xs with
 |nil=>
  intro k free h hr;refine aaG ?_;rw [bI h,aj,bG (by omega)];have e:(free&&rI d [] x)=free:=by simp [rI]
  rw [e] at hr;cases free with
  |true=>rw [ai,gW hi,cz _ (by omega) (by simp) (by omega)];rw [au rfl] at hr;exact hr
  |false=>rw [aj];rw [ak (by simp)] at hr;exact hr
 |cons y xs ih=>
  intro k free h hr;refine aaG ?_;rw [bH h,ai,bJ h (by omega),aX h,Zt _ _ (by omega),aA];have e:rI d (y::xs) x=((decide (y=x)|| !(open Classical in decide (Le d y x)))&&rI d xs x):=by simp [rI]
  rw [e] at hr;cases free with
  |false=>
   rw [aj];refine ih (k+1) false (aN h) ?_;rw [q9] at hr⊢;exact hr
  |true=>
   rw [ai];by_cases hk:k=i
   ·subst hk
    rw [b9 h] at hi;obtain rfl:y=x:=eS hi;rw [cond_pos (by simp)];refine ih (k+1) true (aN h) ?_;have e1:(decide (y=y)|| !(open Classical in decide (Le d y y)))=true:=by simp
    rw [e1,fG] at hr;exact hr
   ·have hne:y≠x:=by
     intro e;subst e;have h1:=b9 h;have hkl:=eo h;rw [aH hkl] at h1;rw [aH hil] at hi;have:=(rB hnd).1 ((eS h1).trans (eS hi).symm);exact hk this
    rw [cond_neg (by simp;omega)];refine ih (k+1) _ (aN h) ?_;have e2:decide (y=x)=false:=by simpa using hne
    have e3:decide (y∈up)=(open Classical in decide (Le d y x)):=by rw [ny];exact hU y
    rw [e2,iY,fG] at hr;rw [e3];exact hr
theorem h104 {d:List aq} (z:Sz d) (A:Acc d) {all:List cG} (hnd:all.Nodup) (hall:all.length≤1048576) (hm:∀x∈all,x∈jQ d):∀(xs:List cG) (i:Nat) (o:List cG),all.drop i=xs→o.length≤i→
  Ft d all i o=some (o++xs.filter (rI d all)):=by
 have hl:=z.len;intro xs
 induction xs with
 |nil=>intro i o h ho;refine aaF ?_;rw [bI h];simp
 |cons x xs ih=>
  intro i o h ho;refine aaF ?_;have hlt:=eo h;obtain ⟨u,hu,_,hU,Hj⟩:=c138 z A (hm x (aT (b9 h)));rw [bH h,ai,aX h,hu,aA];refine h104b z (b9 h) hnd hall (by omega) hU (by omega) all 0 true rfl ?_;rw [fG,fH];cases hf:rI d all x with
  |true=>rw [au rfl,au rfl,ih (i+1) (o++[x]) (aN h) (by simp;omega)];simp
  |false=>rw [ak (by simp),ak (by simp),ih (i+1) o (aN h) (by omega)]
noncomputable def vh (d:List aq) (l:List cG):List cG:=(mD (l.filter fun s=>decide (s∈jQ d))).filter (rI d (mD (l.filter fun s=>decide (s∈jQ d))))
theorem c104 {d:List aq} (z:Sz d) (A:Acc d) (l:List cG) (MT:l.length≤1048576):f104 d l=some (vh d l):=by
 refine e104 ?_;rw [c137 z l MT,aA];have h1:=pZ (l.filter fun s=>decide (s∈jQ d));have h2:=kn (fun s=>decide (s∈jQ d)) l
 have:=h104 z A (all:=mD (l.filter fun s=>decide (s∈jQ d))) (lZ _).nodup (by omega) (fun x hx=>by
  have:=gB.1 hx
  simpa using (cL.1 this).2) _ 0 [] rfl (by simp)
 exact this
end Go.Proofs.YthppjmoncapdfaaGreatDoor.cl
namespace Go.AM
section
variable {K V:Type}
theorem Rm (k:K):Ao ([]:List (K×V)) k=none:=by simp [Ao]
theorem LO (x:K×V) (l:List (K×V)) (k:K):Ao (x::l) k=open Classical in if k=x.1 then some 0 else (Ao l k).map (· +1):=by
 unfold Ao;rw [ug];by_cases h:k=x.1<;>simp [h]
theorem Qh (k:K):getM ([]:List (K×V)) k=none:=by simp [getM,Rm]
theorem A8 (x:K×V) (l:List (K×V)) (k:K):getM (x::l) k=open Classical in if k=x.1 then some x.2 else getM l k:=by
 unfold getM;rw [LO];by_cases h:k=x.1
 ·simp [h]
 ·simp only [h,ez]
  cases Ao l k<;>simp
theorem Rt (k:K) (v:V):Ed [] k v=[(k,v)]:=by simp [Ed,Rm]
theorem Yp (x:K×V) (l:List (K×V)) (k:K) (v:V):Ed (x::l) k v=open Classical in if k=x.1 then (k,v)::l else x::Ed l k v:=by
 unfold Ed;rw [LO];by_cases h:k=x.1
 ·simp [h]
 ·simp only [h,ez]
  cases Ao l k<;>simp
variable {R:Type}
theorem Co {l:List (K×V)} {k:K} {v:V} (h:getM l k=some v) (f:V→Option R) (z:Option R):Ae l k f z=f v:=by unfold Ae;rw [h]
theorem T6 {l:List (K×V)} {k:K} (h:getM l k=none) (f:V→Option R) (z:Option R):Ae l k f z=z:=by unfold Ae;rw [h]
theorem vS {α:Type} (x:α) (k:α→Option R):zz x k=k x:=rfl
end
end Go.AM
namespace Go.Proofs.YthppjmoncapdfaaGreatDoor.cl
open Go Go.AM
end Go.Proofs.YthppjmoncapdfaaGreatDoor.cl
