/- The Closure laws. -/
import Derived.Test.YthppjmoncapdfaaGreatDoorClG
import Derived.Lib.DecodeN
set_option linter.all false
namespace Go.Proofs.YthppjmoncapdfaaGreatDoor.cl
open Go Go.AM
def h37 (l:List cK) (s:cK) (q:l.length<=1073741824):∀(xs:List cK) (i:Nat),l.drop i=xs->WS l s i=some (decide (s∈xs)):=by intro xs;induction xs with
 |nil=>intro i h;refine k37_2 ?_;rw[bp h];simp
 |cons x xs w=>
  intro i h;refine k37_2 ?_;rw[aZ h,ai,aQ h,aY h q,w (i+1) (aG h)];by_cases e:x=s
  .subst e;rw[cond_pos ah];simp
  .rw[cond_neg (by simpa using e)]
   have:¬s=x:=λh=>e h.symm
   simp[this]
def Zp (l:List cK) (s:cK) (q:l.length<=1073741824):f37 l s=some (decide (s∈l)):=e37 (h37 l s q l 0 rfl)
def h98 (l:List cK) (s:cK) (D:l.length<=1073741824):∀(xs:List cK) (i:Nat),l.drop i=xs->i<=l.length->W5 l s i []=some (l.take i++qm s xs):=by intro xs;induction xs with
 |nil=>
  intro i h w;refine k98_3 ?_;have B:=iF h;obtain rfl:i=l.length:=by omega
  rw[bp h,az,az,Dh (aT _),bh aD,bh aD,Dh (aT _),bh aD];simp[qm]
 |cons x xs G=>
  intro i h w;refine k98_3 ?_;have F:=c7 h;have z:l.take (i+1)=l.take i++[x]:=by rw[cg,bB h];rfl
  have q:(l.take l.length).drop i=x::xs:=by rw[fJ,h]
  rw[aZ h,ai,aQ h,ai,aQ h,aY h D,G (i+1) (aG h) af,qm];cases H:Op.bytesLess x s with
  |true=>simp[z]
  |false=>
   rw[az];by_cases e:x=s
   .subst e;rw[cond_pos ah];simp only[au,cU,ez,<-h,jl]
   .rw[cond_neg (by simpa using e),Dh af,bT _ ah aD af,bT _ aD ah af,Dh af,bT _ aD aD af,aP,q];simp[e]
def c98 (l:List cK) (s:cK) (q:l.length<=1073741824):f98 l s=some (qm s l):=e98 (by
 have:=h98 l s q l 0 rfl af
 simpa using this)
def h111 (d:List aA) (s:cK) (l:d.length<=1073741824):∀(xs:List aA) (i:Nat),d.drop i=xs->N4 d s i=some (gJ (λt=>t.Name==s) xs i):=by intro xs;induction xs with
 |nil=>intro i h;refine aaE ?_;rw[bp h];rfl
 |cons x xs q=>intro i h;refine aaE ?_;rw[aZ h,ai,aQ h,aY h l,q (i+1) (aG h),gJ];cases x.Name==s<;>rfl
def fd (d:List aA) (s:cK):Int:=gJ (λt=>t.Name==s) d 0
def Xr (d:List aA) (s:cK) (l:d.length<=1073741824):f111 d s=some (fd d s):=e111 (h111 d s l d 0 rfl)
abbrev jF (d:List aA):List cK:=d.map (·.Name)
def aay {l:Type} (p:l->Bool):∀(xs:List l) (i:Nat),gJ p xs i<0↔∀x∈xs,p x=false:=by intro xs;induction xs with
 |nil=>intro i;simp[gJ]
 |cons x xs q=>intro i;rw[gJ];cases h:p x with
  |true=>simp[h]
  |false=>simp[h,q (i+1)]
def VS {B:Type} (p:B->Bool):∀(xs:List B) (i:Nat),(∃x∈xs,p x=true)->∃j,∃h:j<xs.length,gJ p xs i=((i+j:Nat):Int)/\p xs[j]=true/\∀k (z:k<j),p (xs[k]'(by omega))=false:=by intro xs;induction xs with
 |nil=>intro i h;obtain⟨x,G,_⟩:=h;cases G
 |cons x xs H=>intro i h;rw[gJ];cases q:p x with
  |true=>exact⟨0,by simp,by simp,by simpa using q,λk z=>by omega⟩
  |false=>
   obtain⟨j,I,e,D,F⟩:=H (i+1) (by
    obtain⟨y,w,l⟩:=h;rcases aF.1 w with rfl|w
    .rw[q] at l;cases l
    .exact⟨y,w,l⟩)
   refine⟨j+1,by simp;omega,?_,by simpa using D,?_⟩
   .simp only[cU,ez,e];congr 1;omega
   .intro k z;cases k with
    |zero=>simpa using q
    |succ k=>simpa using F k af
def Ms {d:List aA} {s:cK}:fd d s<0↔s∉jF d:=by
 rw[fd,aay];constructor
 .intro h q;obtain⟨t,l,e⟩:=aC.1 q;have:=h t l;simp[e] at this
 .intro h t l;simp only[iK,ne_eq];exact λe=>h (e▸iO l)
def GH {d:List aA} {s:cK} (h:s∈jF d):∃j,∃l:j<d.length,fd d s=(j:Int)/\d[j].Name=s/\∀k (q:k<j),(d[k]'(by omega)).Name≠s:=by obtain⟨t,D,e⟩:=aC.1 h;obtain⟨j,l,w,z,B⟩:=VS (λt:aA=>t.Name==s) d 0 ⟨t,D,by simpa using e⟩;exact⟨j,l,by rw[fd,w];simp,by simpa using z,λk q=>by simpa using B k q⟩
def h52 (d:List aA) (l:d.length<=1073741824):∀(xs:List aA) (i:Nat) (o:List cK),d.drop i=xs->o.length<=i->WU d o i=some ((xs.map (·.Name)).foldl (λo s=>qm s o) o):=by intro xs;induction xs with
 |nil=>intro i o h q;refine k52_3 ?_;rw[bp h];rfl
 |cons x xs w=>intro i o h q;refine k52_3 ?_;have:=c7 h;have:=mJ x.Name o;rw[aZ h,ai,aQ h,aY h l,c98 _ _ af,ak,w (i+1) _ (aG h) af];rfl
def c52 (d:List aA) (l:d.length<=1073741824):f52 d=some (mz (jF d)):=e52 (h52 d l d 0 [] rfl ah)
def SM (d:List aA):Bool:=decide (d.length>256)||d.any λt=>decide (t.dG.length>256)||decide (t.cD.length>256)
def h70 (d:List aA) (z:d.length<=1073741824):∀(xs:List aA) (i:Nat),d.drop i=xs->W0 d i=some (if(xs.any λt=>decide (t.dG.length>256)||decide (t.cD.length>256))=true then 7 else 0):=by intro xs;induction xs with
 |nil=>intro i h;refine k70_4 ?_;rw[bp h];rfl
 |cons x xs B=>
  intro i h;refine k70_4 ?_;rw[aZ h,ai,aQ h,aQ h,aY h z,B (i+1) (aG h),qw];by_cases l:x.dG.length>256
  .rw[cond_pos aD];simp[l]
  .rw[cond_neg aD];by_cases q:x.cD.length>256
   .rw[cond_pos aD];simp[q]
   .rw[cond_neg aD];have e1:decide (x.dG.length>256)=false:=by simpa using l
    have w:decide (x.cD.length>256)=false:=by simpa using q
    rw[e1,w,iJ,iJ]
def c70 (d:List aA):f70 d=some (if SM d=true then 7 else 0):=by
 refine e70 ?_;by_cases h:d.length>256
 .rw[cond_pos aD];simp[SM,h]
 .rw[cond_neg aD];have e:decide (d.length>256)=false:=by simpa using h
  rw[SM,e,iJ];exact h70 d af d 0 rfl
def nK (c:UInt8):Bool:=decide (48<=c.toNat)&&decide (c.toNat<=57)
def lowerB (c:UInt8):Bool:=decide (97<=c.toNat)&&decide (c.toNat<=122)
def isName (s:cK):Bool:=decide (1<=s.length)&&decide (s.length<=32)&& !nK (s.getD 0 0)&& !(s.getD 0 0).toNat==45&&s.all λc=>nK c||c.toNat==45||lowerB c
def c159 (c:UInt8):f159 (c.toNat:Int)=some (nK c):=by
 refine e159 ?_;by_cases h:48<=c.toNat
 .rw[cond_pos aD];simp only[nK,h,tU,gd];congr 1;rw[mU];omega
 .rw[cond_neg aD];simp[nK,h]
def c167 (c:UInt8):f167 (c.toNat:Int)=some (lowerB c):=by
 refine e167 ?_;by_cases h:97<=c.toNat
 .rw[cond_pos aD];simp only[lowerB,h,tU,gd];congr 1;rw[mU];omega
 .rw[cond_neg aD];simp[lowerB,h]
def c160 (c:UInt8):f160 (c.toNat:Int) false=some (nK c||c.toNat==45||lowerB c):=by refine e160 ?_;rw[c159,ak,c167,ak];cases nK c with
 |true=>rfl
 |false=>
  by_cases h:c.toNat=45
  .rw[az,cond_pos aD];simp[h]
  .rw[az,cond_neg aD];simp[h]
def h140 (s:cK) (l:s.length<=1073741824):∀(xs:cK) (i:Nat),s.drop i=xs->JG s false i=some (xs.all λc=>nK c||c.toNat==45||lowerB c):=by intro xs;induction xs with
 |nil=>intro i h;refine MP ?_;rw[bp h];rfl
 |cons x xs q=>intro i h;refine MP ?_;rw[aZ h,ai,aQ h,c160,ak,aY h l,q (i+1) (aG h),gO];cases(nK x||x.toNat==45||lowerB x)<;>rfl
def c110 (s:cK):f110 s=some (isName s):=by
 refine e110 ?_
 have:f140 s false=some (isName s):=by
  refine e140 ?_;by_cases l:1<=s.length
  .rw[cond_neg aD];by_cases q:s.length<=32
   .rw[cond_neg aD,show(0:Int)=((0:Nat):Int) from rfl,bR af,c159,ak,bR af,h140 s af s 0 rfl];have z:s.getD 0 0=s[0]:=by rw[aX,aK af];rfl
    unfold isName;rw[z];cases nK s[0] with
    |true=>simp[l,q]
    |false=>
     by_cases w:s[0].toNat=45
     .rw[az,cond_pos aD];simp[w]
     .rw[az,cond_neg aD];simp[l,q,w]
   .rw[cond_pos aD];simp[isName,q]
  .rw[cond_pos aD];simp[isName,l]
 rw[this];rfl
def vJ:List cK->List aA->Int
 |_,[]=>0
 |l,t::q=>if isName t.Name=false then 1 else if t.Name∈l then 4 else vJ (l++[t.Name]) q
def fd_lt {d:List aA} {i:Nat} {t:aA} {H:List aA} (h:d.drop i=t::H):fd d t.Name<(i:Int)↔t.Name∈(d.take i).map (·.Name):=by
 have L:=c7 h;have l:d[i]? =some t:=bB h;obtain⟨j,N,e,B,D⟩:=GH (d:=d) (s:=t.Name) (iO (aH l));rw[e];constructor
 .intro F;have q:j<i:=by omega
  refine aC.2 ⟨d[j],?_,B⟩;rw[tV];exact⟨j,by omega,rfl⟩
 .intro G;obtain⟨u,w,z⟩:=aC.1 G;rw[tV] at w;obtain⟨k,O,rfl⟩:=w;apply dm;intro I;exact D k af z
def h71 (d:List aA) (q:d.length<=1073741824):∀(xs:List aA) (i:Nat),d.drop i=xs->W1 d i=some (vJ ((d.take i).map (·.Name)) xs):=by intro xs;induction xs with
 |nil=>intro i h;refine k71_2 ?_;rw[bp h];rfl
 |cons x xs B=>
  intro i h;refine k71_2 ?_;have z:d.take (i+1)=d.take i++[x]:=by rw[cg,bB h];rfl
  rw[aZ h,ai,aQ h,c110,ak,aQ h,Xr d _ q,ak,aY h q,B (i+1) (aG h),vJ,z];cases D:isName x.Name with
  |false=>rfl
  |true=>
   rw[gA,az];by_cases l:x.Name∈(d.take i).map (·.Name)
   .rw[cond_pos (by simpa using(fd_lt h).2 l)];simp only[xN,ez,l,fQ]
   .rw[cond_neg (by simpa using λw=>l ((fd_lt h).1 w))];simp only[xN,ez,l,bJ,aR,dQ]
def c71 (d:List aA) (l:d.length<=1073741824):f71 d=some (vJ [] d):=e71 (h71 d l d 0 rfl)
def spK (q:List cK):List cK->List cK->Int
 |_,[]=>0
 |l,s::ss=>if s∉q then 5 else if s∈l then 4 else spK q (l++[s]) ss
def xd (l:List cK):List aA->Int
 |[]=>0
 |t::q=>if spK l [] t.dG=0 then xd l q else spK l [] t.dG
def h72b (d:List aA) (F:d.length<=1073741824) (i:Nat) (L:i<d.length) (l:List cK) (z:l.length<=1073741824) {r:Int} (H:R6 d (i+1:Nat)=some r):∀(xs:List cK) (k:Nat),l.drop k=xs->
  W4 d i l k=some (if spK (jF d) (l.take k) xs=0 then r else spK (jF d) (l.take k) xs):=by
 intro xs;induction xs with
 |nil=>intro k h;refine k72_6 ?_;rw[bp h,az,bl af,H];rfl
 |cons x xs I=>
  intro k h;refine k72_6 ?_;have G:=c7 h;have D:l.take (k+1)=l.take k++[x]:=by rw[cg,bB h];rfl
  rw[aZ h,ai,aQ h,Xr d _ F,ak,spK];by_cases q:x∈jF d
  .rw[cond_neg (by simpa using λB=>(Ms.1 B) q),Dh af,aQ h,Zp _ _ aD,ak,aY h z,I (k+1) (aG h),D];have e:List.drop 0 (List.take (Int.toNat (k:Int)) l)=l.take k:=ah;rw[e];by_cases w:x∈l.take k
   .rw[cond_pos (by simpa using w)];simp only[q,qx,ez,w,fQ];rfl
   .rw[cond_neg (by simpa using w)];simp only[q,qx,ez,w]
  .rw[cond_pos (by simpa using Ms.2 q)];simp only[q,not_false_eq_true,fQ];rfl
def h72 (d:List aA) (l:d.length<=1073741824) (q:∀t∈d,t.dG.length<=1073741824):∀(xs:List aA) (i:Nat),d.drop i=xs->R6 d i=some (xd (jF d) xs):=by intro xs;induction xs with
 |nil=>intro i h;refine k72_2 ?_;rw[bp h];rfl
 |cons x xs w=>intro i h;refine k72_2 ?_;rw[aZ h,ai,aQ h];exact h72b d l i (c7 h) _ (q x (aH (bB h))) (w (i+1) (aG h)) _ 0 rfl
def c72 (d:List aA) (l:d.length<=1073741824) (q:∀t∈d,t.dG.length<=1073741824):f72 d=some (xd (jF d) d):=e72 (h72 d l q d 0 rfl)
def IS:∀(d:List aA) (l:List cK),vJ l d=0↔(∀t∈d,isName t.Name=true)/\(jF d).Nodup/\∀t∈d,t.Name∉l:=by intro d;induction d with
 |nil=>intro l;simp[vJ]
 |cons t d I=>intro l;unfold vJ;cases F:isName t.Name with
  |false=>simp[F]
  |true=>
   by_cases D:t.Name∈l
   .simp[D]
   .simp only[xN,ez,D,I,bu,bW,aR,fu,aF,jS];constructor
    .rintro⟨z,B,w⟩;refine⟨?_,⟨?_,B⟩,?_⟩
     .rintro u (rfl|q)
      .exact F
      .exact z u q
     .intro H;obtain⟨u,q,e⟩:=aC.1 H;exact(w u q).2.1 e
     .rintro u (rfl|q)
      .exact D
      .exact(w u q).1
    .rintro⟨z,⟨B,w⟩,G⟩;refine⟨λu q=>z u (.inr q),w,λu q=>⟨G u (.inr q),λe=>B (by rw[<-e];exact iO q),ah⟩⟩
def acW (H:List cK):∀(l q:List cK),spK H q l=0↔(∀s∈l,s∈H)/\l.Nodup/\∀s∈l,s∉q:=by intro l;induction l with
 |nil=>intro q;simp[spK]
 |cons s l N=>
  intro q;unfold spK;by_cases B:s∈H
  .by_cases F:s∈q
   .simp[B,F]
   .simp only[B,qx,ez,F,N,bu,bW,fu,aF,jS];constructor
    .rintro⟨D,G,z⟩;refine⟨?_,⟨λL=>(z s L).2.1 rfl,G⟩,?_⟩
     .rintro u (rfl|w)
      .exact B
      .exact D u w
     .rintro u (rfl|w)
      .exact F
      .exact(z u w).1
    .rintro⟨D,⟨G,z⟩,I⟩;exact⟨λu w=>D u (.inr w),z,λu w=>⟨I u (.inr w),λe=>G (by rw[<-e];exact w),ah⟩⟩
  .simp[B]
def Jy (q:List cK):∀(d:List aA),xd q d=0↔∀t∈d,(∀s∈t.dG,s∈q)/\t.dG.Nodup:=by intro d;induction d with
 |nil=>simp[xd]
 |cons t d B=>
  unfold xd;have:=acW q t.dG [];split
  .rename_i h;rw[B];have w:=this.1 h;simp only[aF,forall_eq_or_imp];exact⟨λl=>⟨⟨w.1,w.2.1⟩,l⟩,λl=>l.2⟩
  .rename_i h;constructor
   .intro z;exact absurd z h
   .intro l;exact absurd (this.2 ⟨(l t ah).1,(l t ah).2,ah⟩) h
end Go.Proofs.YthppjmoncapdfaaGreatDoor.cl
namespace Go.Proofs.YthppjmoncapdfaaGreatDoor.cl
open Go Go.AM
def h112 (t:aA) (o:List cK) (l:o.length<=1073741824) (q:t.dG.length<=1073741824):∀(xs:List cK) (i:Nat),t.dG.drop i=xs->N5 o i t=some (xs.all λs=>decide (s∈o)):=by intro xs;induction xs with
 |nil=>intro i h;refine aaF ?_;rw[bp h];rfl
 |cons x xs z=>intro i h;refine aaF ?_;rw[aZ h,ai,aQ h,Zp _ _ l,ak,aY h q,z (i+1) (aG h),gO];by_cases w:x∈o<;>simp[w]
def c112 (t:aA) (o:List cK) (l:o.length<=1073741824) (q:t.dG.length<=1073741824):f112 t o=some (t.dG.all λs=>decide (s∈o)):=e112 (h112 t o l q _ 0 rfl)
structure Sz (d:List aA):Prop where
 len:d.length<=1048576
 sup:∀t∈d,t.dG.length<=1048576
structure Sy (d:List aA) (o:List cK):Prop where
 nd:o.Nodup
 sub:∀x∈o,x∈jF d
 pre:∀i x,o[i]? =some x->∃t∈d,t.Name=x/\∀s∈t.dG,s∈o.take i
def Rdy (d:List aA) (o:List cK) (x:cK):Prop:=∃t∈d,t.Name=x/\x∉o/\∀s∈t.dG,s∈o
def Sy.len {d:List aA} {o:List cK} (h:Sy d o):o.length<=d.length:=by have:=ja h.nd h.sub;simpa using this
def h73b {d:List aA} (z:Sz d) {o:List cK} (ho:o.length<=d.length):∀(xs:List aA) (i:Nat) (more:Bool) (next:cK),d.drop i=xs->(more=true->Rdy d o next)->
  ∃(l:Bool) (q:cK),(l=true->Rdy d o q)/\(l=false->∀t∈xs,t.Name∉o->∃s∈t.dG,s∉o)/\(more=true->l=true)/\
   ∀r,Ke d l (if l=true then o++[q] else o)=some r->Eh d more next i o=some r:=by
 have hl:=z.len;intro xs;induction xs with
 |nil=>
  intro i more next h N
  refine⟨more,next,N,λ_ t B=>(by cases B),λh=>h,λr w=> ?_⟩;refine Wm ?_;rw[bp h,az];cases more with
  |true=>rw[ai,bT _ af ah af];rw[au rfl] at w;exact w
  |false=>rw[az];rw[aq ah] at w;exact w
 |cons x xs ih=>
  intro i more next h N
  have hx:x∈d:=aH (bB h);by_cases L:x.Name∈o
  .obtain⟨Q,S,H,a2,F,I⟩:=ih (i+1) more next (aG h) N
   refine⟨Q,S,H,λe t B G=> ?_,F,λr w=> ?_⟩
   .rcases aF.1 B with rfl|B
    .exact absurd L G
    .exact a2 e t B G
   .refine Wm ?_;rw[aZ h,ai,aQ h,Zp _ _ af,ak,cond_pos (by simpa using L),aY h af];exact I r w
  .by_cases h2:∀s∈x.dG,s∈o
   .have O:Rdy d o x.Name:=⟨x,hx,rfl,L,h2⟩
    have D:(x.dG.all λs=>decide (s∈o))=true:=by rw[cv];intro s P;simpa using h2 s P
    have go:∀U,Rdy d o U->(more=false->U=x.Name)->(more=true->U=if Op.bytesLess x.Name next=true then x.Name else next)->∃(l:Bool) (q:cK),(l=true->Rdy d o q)/\(l=false->∀t∈x::xs,t.Name∉o->∃s∈t.dG,s∉o)/\(more=true->l=true)/\
      ∀r,Ke d l (if l=true then o++[q] else o)=some r->Eh d more next i o=some r:=by
     intro U G e1 e2;obtain⟨Q,S,H,a2,F,I⟩:=ih (i+1) true U (aG h) (λ_=>G);refine⟨Q,S,H,λe=>(by rw[F rfl] at e;cases e),λ_=>F rfl,λr w=> ?_⟩;have w:=I r w;refine Wm ?_;rw[aZ h,ai,aQ h,Zp _ _ af,ak,cond_neg (by simpa using L),aQ h,c112 _ _ af (by have:=z.sup x hx;omega),ak,D,gA,az];cases more with
     |false=>rw[mV,ai,aQ h,aY h af];rw[e1 rfl] at w;exact w
     |true=>rw[gA,az,aQ h,aQ h,aY h af];have:=e2 rfl;cases hb:Op.bytesLess x.Name next with
      |true=>rw[hb,au rfl] at this;rw[this] at w;rw[ai];exact w
      |false=>rw[hb] at this;simp only[cU,ez] at this;rw[this] at w;rw[az];exact w
    cases hm:more with
    |false=>rw[hm] at go;exact go x.Name O (λ_=>rfl) (λe=>by cases e)
    |true=>
     rw[hm] at go;refine go _ ?_ (λe=>by cases e) (λ_=>rfl);split
     .exact O
     .exact N hm
   .obtain⟨Q,S,H,a2,F,I⟩:=ih (i+1) more next (aG h) N
    have D:(x.dG.all λs=>decide (s∈o))=false:=by apply dm;intro hc;rw[xO,cv] at hc;exact h2 λs P=>by simpa using hc s P
    refine⟨Q,S,H,λe t B G=> ?_,F,λr w=> ?_⟩
    .rcases aF.1 B with rfl|B
     .apply dm;intro hc;exact h2 λs P=>dm λVJ=>hc ⟨s,P,VJ⟩
     .exact a2 e t B G
    .refine Wm ?_;rw[aZ h,ai,aQ h,Zp _ _ af,ak,cond_neg (by simpa using L),aQ h,c112 _ _ af (by have:=z.sup x hx;omega),ak,D,mV,ai,aY h af];exact I r w
def h73 {d:List aA} (z:Sz d):∀(n:Nat) (o:List cK),d.length-o.length=n->Sy d o->
  ∃out,Sy d out/\(∀t∈d,t.Name∉out->∃s∈t.dG,s∉out)/\Ke d true o=some out:=by
 intro n;induction n with
 |zero=>intro o hn w;have q:=w.len;obtain⟨S,I,L,N,U,F⟩:=h73b z q d 0 false [] rfl (λe=>by cases e);cases S with
  |false=>refine⟨o,w,N rfl,?_⟩;refine QS ?_;rw[ai];refine F _ ?_;refine QS ?_;simp
  |true=>
   obtain⟨t,H,e,B,G⟩:=L rfl
   have:(o++[I]).length<=(jF d).length:=ja (by
    rw[gV]
    exact⟨w.nd,by simp,λa O b D=>by simp only[bW] at D;subst D;exact λe=>B (e▸O)⟩) (λx l=>by
     rcases bu.1 l with l|l
     .exact w.sub x l
     .simp only[bW] at l;subst l;rw[<-e];exact iO H)
   simp at this;omega
 |succ n ih=>intro o hn w;have q:=w.len;obtain⟨S,I,L,N,U,F⟩:=h73b z q d 0 false [] rfl (λe=>by cases e);cases S with
  |false=>refine⟨o,w,N rfl,?_⟩;refine QS ?_;rw[ai];refine F _ ?_;refine QS ?_;simp
  |true=>
   obtain⟨t,H,e,B,G⟩:=L rfl;have hT:Sy d (o++[I]):=by
    refine⟨?_,?_,?_⟩
    .rw[gV];exact⟨w.nd,by simp,λa O b D=>by simp only[bW] at D;subst D;exact λe=>B (e▸O)⟩
    .intro x l;rcases bu.1 l with l|l
     .exact w.sub x l
     .simp only[bW] at l;subst l;rw[<-e];exact iO H
    .intro i x l;by_cases hi:i<o.length
     .rw[dA hi] at l;obtain⟨u,hu,e1,h1⟩:=w.pre i x l;exact⟨u,hu,e1,λs G=>by rw[xP af];exact h1 s G⟩
     .have P:i=o.length:=by
       apply dm;intro hc;rw[fA aD] at l;cases l
      subst P;rw[fW af,mR] at l;simp only[CP,aM] at l;subst l;exact⟨t,H,e,λs Q=>by rw[List.take_left'];exact G s Q;rfl⟩
   obtain⟨out,b1,b2,b3⟩:=ih (o++[I]) aD hT;refine⟨out,b1,b2,?_⟩;refine QS ?_;rw[ai];exact F _ b3
def c73 {d:List aA} (z:Sz d):∃out,Sy d out/\(∀t∈d,t.Name∉out->∃s∈t.dG,s∉out)/\f73 d=some out:=by obtain⟨out,q,w,B⟩:=h73 z _ [] rfl ⟨ah,λx l=>(by cases l),λi x l=>(by simp at l)⟩;exact⟨out,q,w,e73 B⟩
def BF (d:List aA):Prop:=∃r:cK->Nat,∀t∈d,∀s∈t.dG,r s<r t.Name
def Jg {d:List aA} {o:List cK} (O:(jF d).Nodup) (F:Sy d o) (L:∀t∈d,t.Name∈o):BF d:=by
 refine⟨λx=>o.idxOf x,λt G s P=> ?_⟩;have N:=L t G;have D:o.idxOf t.Name<o.length:=List.idxOf_lt_length_iff.2 N;have l:o[o.idxOf t.Name]? =some t.Name:=by rw[aK D,List.getElem_idxOf D]
 obtain⟨u,Q,e,q⟩:=F.pre _ _ l;have B:u=t:=by
  obtain⟨i,w,rfl⟩:=iw.1 Q;obtain⟨j,z,rfl⟩:=iw.1 G
  have:(jF d)[i]'(by simpa using w)=(jF d)[j]'(by simpa using z):=by simpa using e
  have:=(qU O).1 this;subst this;rfl
 subst B;have:=q s P;rw[tV] at this;obtain⟨k,S,rfl⟩:=this;show o.idxOf o[k]<_;have H:o.idxOf o[k]=k:=F.nd.idxOf_getElem k af;have I:k<o.idxOf u.Name:=af;rw[H];exact I
def Ij {d:List aA} {o:List cK} (l:∀t∈d,∀s∈t.dG,s∈jF d) (q:∀t∈d,t.Name∉o->∃s∈t.dG,s∉o) (z:BF d):∀t∈d,t.Name∈o:=by
 obtain⟨r,z⟩:=z;have key:∀(n:Nat) (t:aA),t∈d->r t.Name=n->t.Name∈o:=by intro n;induction n using Nat.strongRecOn with
  |_ n H=>intro t w e;apply dm;intro F;obtain⟨s,D,B⟩:=q t w F;obtain⟨u,G,rfl⟩:=aC.1 (l t w s D);have:=z t w _ D;exact B (H (r u.Name) af u G rfl)
 exact λt w=>key _ t w rfl
def Cv (d:List aA):Nat:=(d.filter λt=>t.dG.length==0).length
open Classical in
noncomputable def HR (d:List aA):Int:=
 if SM d=true then 7 else if vJ [] d≠0 then vJ [] d else if xd (jF d) d≠0 then xd (jF d) d else if Cv d≠1 then 1 else if BF d then 0 else 6
def h32 {d:List aA} (z:Sz d) (P:vJ [] d=0) (Q:xd (jF d) d=0):∀(xs:List aA) (i n:Nat),d.drop i=xs->n<=i->
  JJ d n i=some (open Classical in if n+Cv xs≠1 then 1 else if BF d then 0 else 6):=by
 have hl:=z.len;intro xs;induction xs with
 |nil=>
  intro i n h U;refine aaP ?_;obtain⟨out,G,L,N⟩:=c73 z;have B:=((IS d []).1 P).2.1;have w:∀t∈d,∀s∈t.dG,s∈jF d:=λt D=>((Jy _ d).1 Q t D).1
  rw[bp h,az];have O:n+Cv []=n:=rfl;rw[O];by_cases H:n=1
  .rw[cond_neg aD,N,ak,aq af];by_cases F:BF d
   .have l:=Ij w L F
    have:(jF d).length<=out.length:=ja B λx q=>by obtain⟨t,D,rfl⟩:=aC.1 q;exact l t D
    simp only[aU] at this;rw[cond_neg aD,au F]
   .have:out.length<d.length:=by
     apply dm;intro hc;apply F;refine Jg B G λt D=> ?_
     exact Ut G.nd G.sub aD _ (iO D)
    rw[cond_pos aD,aq F]
  .rw[cond_pos aD,au H]
 |cons x xs I=>
  intro i n h U;refine aaP ?_;have S:=c7 h;rw[aZ h,ai,aQ h,aY h af,bl af];by_cases q:x.dG.length=0
  .rw[cond_pos (by simpa using q),I (i+1) (n+1) (aG h) af]
   have:Cv (x::xs)=Cv xs+1:=by simp[Cv,fI,q]
   rw[this,show n+1+Cv xs=n+(Cv xs+1) by omega]
  .rw[cond_neg (by simpa using q),I (i+1) n (aG h) af]
   have:Cv (x::xs)=Cv xs:=by
    have:(x.dG.length==0)=false:=by simpa using q
    simp[Cv,fI,this]
   rw[this]
def c32 {d:List aA} (z:Sz d):f32 d=some (HR d):=by
 have D:=z.len;refine e32 ?_;rw[c70,ak,c71 d af,ak,c72 d af (λt B=>by have:=z.sup t B;omega),ak];unfold HR;by_cases q:SM d=true
 .rw[au q,au q];rfl
 .rw[aq q,aq q];by_cases l:vJ [] d=0
  .by_cases w:xd (jF d) d=0
   .have:=h32 z l w d 0 0 rfl af;rw[l,w,aq ah,aq ah];simpa using this
   .rw[au w,l,aq ah];rw[cond_neg ah,cond_neg ah,cond_pos (by simpa using w)]
  .rw[au l,cond_neg ah,cond_pos (by simpa using l)]
structure Acc (d:List aA):Prop where
 nd:(jF d).Nodup
 name:∀t∈d,isName t.Name=true
 dec:∀t∈d,∀s∈t.dG,s∈jF d
 top:Cv d=1
 rk:BF d
def Ht {d:List aA} (h:HR d=0):Acc d:=by
 unfold HR at h;split at h
 .cases h
 split at h
 .rename_i l;exact absurd h l
 split at h
 .rename_i l;exact absurd h l
 split at h
 .cases h
 split at h
 .rename_i I l D F G;have q:vJ [] d=0:=dm l;have w:xd (jF d) d=0:=dm D;obtain⟨z,B,_⟩:=(IS d []).1 q;exact⟨B,z,λt H=>((Jy _ d).1 w t H).1,dm F,G⟩
 .cases h
end Go.Proofs.YthppjmoncapdfaaGreatDoor.cl
namespace Go.Proofs.YthppjmoncapdfaaGreatDoor.cl
open Go Go.AM
def dn (d:List aA) (x:cK):List cK:=(d.filter λt=>decide (x∈t.dG)).map (·.Name)
def up (d:List aA) (x:cK):List cK:=match d.find? (λt=>t.Name==x) with
 |some t=>t.dG
 |none=>[]
def IL {d:List aA} {x y:cK}:y∈dn d x↔∃t∈d,t.Name=y/\x∈t.dG:=by simp only[dn,aC,cG,jV];exact⟨λ⟨t,⟨l,q⟩,w⟩=>⟨t,l,w,q⟩,λ⟨t,l,w,q⟩=>⟨t,⟨l,q⟩,w⟩⟩
def Th {d:List aA} {x y:cK} (h:y∈dn d x):y∈jF d:=by obtain⟨t,l,e,_⟩:=IL.1 h;exact e▸iO l
def nd_eq {d:List aA} (w:(jF d).Nodup) {t u:aA} (z:t∈d) (B:u∈d) (e:t.Name=u.Name):t=u:=by
 obtain⟨i,l,rfl⟩:=iw.1 z;obtain⟨j,q,rfl⟩:=iw.1 B
 have:(jF d)[i]'(by simpa using l)=(jF d)[j]'(by simpa using q):=by simpa using e
 have:=(qU w).1 this;subst this;rfl
def ac4 {d:List aA} (z:(jF d).Nodup) {t:aA} (l:t∈d):up d t.Name=t.dG:=by unfold up;cases e:d.find? (λu=>u.Name==t.Name) with
 |none=>rw[tQ] at e;exact absurd (e t l) ah
 |some u=>have q:=oG e;have w:=oF e;rw[nd_eq z w l (by simpa using q)]
def ab9 {d:List aA} (q:(jF d).Nodup) {x y:cK} (z:x∈jF d):y∈up d x↔x∈dn d y:=by
 obtain⟨t,l,rfl⟩:=aC.1 z;rw[ac4 q l,IL];constructor
 .intro h;exact⟨t,l,rfl,h⟩
 .rintro⟨u,w,e,h⟩;rw[nd_eq q w l e] at h;exact h
abbrev Le (d:List aA) (x y:cK):Prop:=rR (dn d) x y
def RD {d:List aA} (A:Acc d) {x y:cK} (D:x∈jF d) (h:rR (up d) x y):y∈jF d/\Le d y x:=by induction h with
 |refl=>exact⟨D, .refl⟩
 | @step y z G l F=>
  obtain⟨w,B⟩:=F;refine⟨?_,?_⟩
  .obtain⟨t,q,e⟩:=aC.1 w;subst e;rw[ac4 A.nd q] at l;exact A.dec t q _ l
  .exact rR.trans (.step .refl ((ab9 A.nd w).1 l)) B
def rR.head {next:cK->List cK} {x y z:cK} (l:y∈next x) (q:rR next y z):rR next x z:=rR.trans (.step .refl l) q
def ac5 {d:List aA} (A:Acc d) {x y:cK} (h:Le d y x):rR (up d) x y:=by induction h with
 |refl=>exact .refl
 | @step u v w l q=>exact rR.head ((ab9 A.nd (Th l)).2 l) q
def NG {d:List aA} (A:Acc d) {x y:cK} (l:x∈jF d):rR (up d) x y↔Le d y x:=⟨λh=>(RD A l h).2,ac5 A⟩
def M6 {d:List aA} {r:cK->Nat} (l:∀t∈d,∀s∈t.dG,r s<r t.Name) {x y:cK} (h:Le d x y):x=y\/r x<r y:=by induction h with
 |refl=>exact .inl rfl
 |step _ z B=>
  obtain⟨t,w,rfl,q⟩:=IL.1 z;have:=l t w _ q;rcases B with rfl|h
  .exact .inr this
  .exact .inr af
theorem le_antisymm {d:List aA} (A:Acc d) {x y:cK} (w:Le d x y) (z:Le d y x):x=y:=by
 obtain⟨r,q⟩:=A.rk;rcases M6 q w with h|h
 .exact h
 .rcases M6 q z with l|l
  .exact l.symm
  .omega
def root {d:List aA} (A:Acc d):∃t∈jF d,∀y∈jF d,Le d t y:=by
 have q:=A.top;unfold Cv at q;obtain⟨t,F⟩:=List.length_eq_one_iff.1 q;have B:t∈d.filter (λt=>t.dG.length==0):=by rw[F];simp
 refine⟨t.Name,iO (cG.1 B).1,?_⟩;obtain⟨r,G⟩:=A.rk;have key:∀(n:Nat) (u:aA),u∈d->r u.Name=n->Le d t.Name u.Name:=by intro n;induction n using Nat.strongRecOn with
  |_ n L=>intro u z e;cases D:u.dG with
   |nil=>
    have:u∈d.filter (λt=>t.dG.length==0):=cG.2 ⟨z,by simp[D]⟩
    rw[F,bW] at this;subst this;exact .refl
   |cons s l=>
    have w:s∈u.dG:=by rw[D];simp
    obtain⟨v,H,rfl⟩:=aC.1 (A.dec u z s w);have:=G u z _ w;exact .step (L (r v.Name) af v H rfl) (IL.2 ⟨u,z,rfl,w⟩)
 intro y I;obtain⟨u,z,rfl⟩:=aC.1 I;exact key _ u z rfl
def h99b {d:List aA} (z:Sz d) {i:Nat} {x:cK}:∀(xs:List aA) (k:Nat) (o:List cK),d.drop k=xs->o[i]? =some x->o.length+xs.length<=2097152->∀r,
  R7 d (i+1:Nat) (iI o ((xs.filter λt=>decide (x∈t.dG)).map (·.Name)))=some r->LO d i k o=some r:=by
 have L:=z.len;intro xs;induction xs with
 |nil=>intro k o h w q r l;refine k99_8 ?_;have F:=(bD.1 w).1;rw[bp h,az,bl af];exact l
 |cons t xs G=>
  intro k o h w q r l;refine k99_8 ?_;have F:=(bD.1 w).1;have I:t∈d:=aH (bB h);have H:=z.sup t I;simp only[bg] at q;rw[aZ h,ai,aQ h,Ta F,aP,gE w,Zp _ _ af,ak,aY h af,aQ h,Zp _ _ af,ak,aQ h];rw[fI] at l;by_cases B:x∈t.dG
  .rw[cond_pos (by simpa using B)];rw[au (by simpa using B),aR] at l;by_cases D:t.Name∈o
   .rw[cond_neg (by simpa using D)];refine G (k+1) o (aG h) w af r ?_;have e:iI o (t.Name::(List.filter (λt=>decide (x∈t.dG)) xs).map (·.Name))=iI o ((List.filter (λt=>decide (x∈t.dG)) xs).map (·.Name)):=by simp[iI,D]
    rw[e] at l;exact l
   .rw[cond_pos (by simpa using D),bT _ af ah af];refine G (k+1) (o++[t.Name]) (aG h) (by rw[dA F];exact w) aD r ?_;have e:iI o (t.Name::(List.filter (λt=>decide (x∈t.dG)) xs).map (·.Name))=iI (o++[t.Name]) ((List.filter (λt=>decide (x∈t.dG)) xs).map (·.Name)):=by simp[iI,D]
    rw[e] at l;exact l
  .rw[cond_neg (by simpa using B)];rw[aq (by simpa using B)] at l;exact G (k+1) o (aG h) w af r l
def h99c (o:List cK) (w:o.length<=1073741824):∀(xs:List cK) (i:Nat) (out:List cK),o.drop i=xs->out.length<=i->E9 out i o=some (xs.foldl (λo s=>qm s o) out):=by intro xs;induction xs with
 |nil=>intro i out h l;refine ab3 ?_;rw[bp h];rfl
 |cons x xs z=>intro i out h l;refine ab3 ?_;have q:=c7 h;have:=mJ x out;rw[aZ h,ai,sU h,sR h,c98 _ _ af,ak,aY h w,z (i+1) _ (aG h) af];rfl
def c99 {d:List aA} (z:Sz d) {x:cK} (F:x∈jF d):∃l,f99 d x=some l/\SS l/\(∀y,y∈l↔Le d x y)/\l.length<=d.length:=by
 have Q:=z.len;obtain⟨o,O,G,H,I⟩:=search (next:=dn d) (U:=jF d) (x0:=x) F (λx _ y q=>Th q) (R:=R99.T) (outer:=λi o=>R7 d i o) (fin:=λo=>E9 [] 0 o)
  (λi o D L r w=>by
   refine k99_5 ?_
   rw[cond_neg aD];exact w)
  (λi o y D B q _ r w=>by
   have L:=(bD.1 q).1;refine k99_5 ?_;rw[cond_pos aD];simp only[aU] at D
   exact h99b z d 0 o rfl q af r w)
 simp only[aU] at H;have N:E9 [] 0 o=some (mz o):=h99c o af o 0 [] rfl ah;refine⟨mz o,?_,lI o,λy=>by rw[gu,G],by have:=pq o;omega⟩;refine e99 ?_;obtain⟨j,P,e,_⟩:=GH F;rw[Xr d _ af,ak,e,cond_neg ah];exact I _ N
def h138b {d:List aA} (z:Sz d) {i:Nat} {l:List cK} (G:l.length<=1048576):∀(xs:List cK) (k:Nat) (o:List cK),l.drop k=xs->i<o.length->o.length+xs.length<=2097152->∀r,
  JD d (i+1:Nat) (iI o xs)=some r->JE d i l k o=some r:=by
 have H:=z.len;intro xs;induction xs with
 |nil=>intro k o h D q r w;refine aaI ?_;rw[bp h,az,bl af];exact w
 |cons s xs F=>
  intro k o h D q r w;refine aaI ?_;simp only[bg] at q;rw[aZ h,ai,aQ h,Zp _ _ af,ak,aY h af,aQ h];by_cases B:s∈o
  .rw[cond_neg (by simpa using B)];refine F (k+1) o (aG h) D af r ?_;have e:iI o (s::xs)=iI o xs:=by simp[iI,B]
   rw[e] at w;exact w
  .rw[cond_pos (by simpa using B),bT _ af ah af];refine F (k+1) (o++[s]) (aG h) aD aD r ?_;have e:iI o (s::xs)=iI (o++[s]) xs:=by simp[iI,B]
   rw[e] at w;exact w
def h138c (o:List cK) (w:o.length<=1073741824):∀(xs:List cK) (i:Nat) (out:List cK),o.drop i=xs->out.length<=i->A4 out i o=some (xs.foldl (λo s=>qm s o) out):=by intro xs;induction xs with
 |nil=>intro i out h l;refine VU ?_;rw[bp h];rfl
 |cons x xs z=>intro i out h l;refine VU ?_;have q:=c7 h;have:=mJ x out;rw[aZ h,ai,sU h,sR h,c98 _ _ af,ak,aY h w,z (i+1) _ (aG h) af];rfl
def c138 {d:List aA} (z:Sz d) (A:Acc d) {x:cK} (q:x∈jF d):∃l,f138 d x=some l/\SS l/\(∀y,y∈l↔Le d y x)/\l.length<=d.length:=by
 have hl:=z.len;obtain⟨o,h1,O,P,Q⟩:=search (next:=up d) (U:=jF d) (x0:=x) q (λx q y B=>(RD A q (.step .refl B)).1) (R:=R138.T) (outer:=λi o=>JD d i o) (fin:=λo=>A4 [] 0 o)
  (λi o I D r F=>by
   refine aaH ?_
   rw[cond_neg aD];exact F)
  (λi o y I H B G r F=>by
   have D:=(bD.1 B).1;refine aaH ?_;obtain⟨j,w,e,S,_⟩:=GH G;simp only[aU] at I;rw[cond_pos aD,Ta D,aP,gE B,Xr d _ af,ak,e,bR w];have L:=z.sup _ (bq w);refine h138b z af d[j].dG 0 o rfl D af r ?_;have N:up d y=d[j].dG:=by rw[<-S];exact ac4 A.nd (bq w)
   rw[<-N];exact F)
 simp only[aU] at P;have U:A4 [] 0 o=some (mz o):=h138c o af o 0 [] rfl ah;refine⟨mz o,?_,lI o,λy=>by rw[gu,O,NG A q],by have:=pq o;omega⟩;refine e138 ?_;obtain⟨j,w,e,_⟩:=GH q;rw[Xr d _ af,ak,e,cond_neg ah];exact Q _ U
def h137 {d:List aA} (z:Sz d) (l:List cK) (G:l.length<=1048576):∀(xs:List cK) (i:Nat) (out:List cK),l.drop i=xs->out.length<=i->JC d l out i=some ((xs.filter λs=>decide (s∈jF d)).foldl (λo s=>qm s o) out):=by have L:=z.len;intro xs;induction xs with
 |nil=>intro i out h F;refine aaG ?_;rw[bp h];rfl
 |cons x xs D=>
  intro i out h F;refine aaG ?_;have H:=c7 h;have:=mJ x out;rw[aZ h,ai,aQ h,Xr d _ af,ak,aY h af,aQ h,fI];by_cases w:x∈jF d
  .have B:fd d x>=0:=by
    apply dm;intro I;exact Ms.1 af w
   rw[cond_pos (by simpa using B),c98 _ _ af,ak,D (i+1) _ (aG h) af,au (by simpa using w)];rfl
  .have q:=Ms.2 w;rw[cond_neg (by simpa using q),D (i+1) _ (aG h) af,aq (by simpa using w)]
def c137 {d:List aA} (z:Sz d) (l:List cK) (q:l.length<=1048576):f137 d l=some (mz (l.filter λs=>decide (s∈jF d))):=e137 (h137 z l q l 0 [] rfl ah)
open Classical in
noncomputable def rf (d:List aA) (all:List cK) (x:cK):Bool:=all.all λy=>decide (y=x)|| !decide (Le d y x)
def h104b {d:List aA} (z:Sz d) {all up:List cK} {i:Nat} {x:cK} (w:all[i]? =some x) (F:all.Nodup) (L:all.length<=1048576) (S:up.length<=1048576) (Q:∀y,y∈up↔Le d y x) {o:List cK} (U:o.length<=1048576) {r:List cK}:
  ∀(xs:List cK) (k:Nat) (l:Bool),all.drop k=xs->
  EZ d all (i+1:Nat) (if(l&&rf d xs x)=true then o++[x] else o)=some r->E0 d all i up l k o=some r:=by
 intro xs;have B:=(bD.1 w).1;induction xs with
 |nil=>
  intro k l h q;refine aaC ?_;rw[bp h,az,bl af];have e:(l&&rf d [] x)=l:=by simp[rf]
  rw[e] at q;cases l with
  |true=>rw[ai,ew w,bT _ af ah af];rw[au rfl] at q;exact q
  |false=>rw[az];rw[aq ah] at q;exact q
 |cons y xs H=>
  intro k l h q;refine aaC ?_;rw[aZ h,ai,aY h af,aQ h,Zp _ _ af,ak];have e:rf d (y::xs) x=((decide (y=x)|| !(open Classical in decide (Le d y x)))&&rf d xs x):=by simp[rf]
  rw[e] at q;cases l with
  |false=>rw[az];refine H (k+1) false (aG h) ?_;rw[qM] at q⊢;exact q
  |true=>
   rw[ai];by_cases N:k=i
   .subst N;rw[bB h] at w;obtain rfl:y=x:=c9 w;rw[cond_pos ah];refine H (k+1) true (aG h) ?_;have e1:(decide (y=y)|| !(open Classical in decide (Le d y y)))=true:=ah;rw[e1,gd] at q;exact q
   .have G:y≠x:=by
     intro e;subst e;have I:=bB h;have D:=c7 h;rw[aK D] at I;rw[aK B] at w;have:=(qU F).1 ((c9 I).trans (c9 w).symm);exact N this
    rw[cond_neg aD];refine H (k+1) _ (aG h) ?_;have O:decide (y=x)=false:=by simpa using G
    have P:decide (y∈up)=(open Classical in decide (Le d y x)):=by rw[mU];exact Q y
    rw[O,iJ,gd] at q;rw[P];exact q
def h104 {d:List aA} (z:Sz d) (A:Acc d) {all:List cK} (q:all.Nodup) (l:all.length<=1048576) (F:∀x∈all,x∈jF d):∀(xs:List cK) (i:Nat) (o:List cK),all.drop i=xs->o.length<=i->
  EZ d all i o=some (o++xs.filter (rf d all)):=by
 have N:=z.len;intro xs;induction xs with
 |nil=>intro i o h G;refine aaB ?_;rw[bp h];simp
 |cons x xs w=>intro i o h G;refine aaB ?_;have D:=c7 h;obtain⟨u,H,_,B,I⟩:=c138 z A (F x (aH (bB h)));rw[aZ h,ai,aQ h,H,ak];refine h104b z (bB h) q l af B af all 0 true rfl ?_;rw[gd,fI];cases L:rf d all x with
  |true=>rw[au rfl,au rfl,w (i+1) (o++[x]) (aG h) aD];simp
  |false=>rw[aq ah,aq ah,w (i+1) o (aG h) af]
noncomputable def uX (d:List aA) (l:List cK):List cK:=(mz (l.filter λs=>decide (s∈jF d))).filter (rf d (mz (l.filter λs=>decide (s∈jF d))))
def c104 {d:List aA} (z:Sz d) (A:Acc d) (l:List cK) (q:l.length<=1048576):f104 d l=some (uX d l):=by
 refine e104 ?_;rw[c137 z l q,ak];have B:=pq (l.filter λs=>decide (s∈jF d));have D:=kW (λs=>decide (s∈jF d)) l
 have:=h104 z A (all:=mz (l.filter λs=>decide (s∈jF d))) (lI _).nodup af (λx w=>by
  have:=gu.1 w
  simpa using(cG.1 this).2) _ 0 [] rfl ah
 exact this
end Go.Proofs.YthppjmoncapdfaaGreatDoor.cl
namespace Go.AM
section
variable {K V:Type}
def Rv (k:K):zZ ([]:List (K×V)) k=none:=by simp[zZ]
def LA (x:K×V) (l:List (K×V)) (k:K):zZ (x::l) k=open Classical in if k=x.1 then some 0 else(zZ l k).map (· +1):=by unfold zZ;rw[tN];by_cases h:k=x.1<;>simp[h]
def Il (k:K):getM ([]:List (K×V)) k=none:=by simp[getM,Rv]
def oW (x:K×V) (l:List (K×V)) (k:K):getM (x::l) k=open Classical in if k=x.1 then some x.2 else getM l k:=by
 unfold getM;rw[LA];by_cases h:k=x.1
 .simp[h]
 .simp only[h,ez];cases zZ l k<;>simp
def Je (k:K) (v:V):wA [] k v=[(k,v)]:=by simp[wA,Rv]
def LD (x:K×V) (l:List (K×V)) (k:K) (v:V):wA (x::l) k v=open Classical in if k=x.1 then(k,v)::l else x::wA l k v:=by
 unfold wA;rw[LA];by_cases h:k=x.1
 .simp[h]
 .simp only[h,ez];cases zZ l k<;>simp
def Qq (k k':K) (v:V):∀l:List (K×V),getM (wA l k v) k'=open Classical in if k'=k then some v else getM l k':=by intro l;induction l with
 |nil=>rw[Je,oW,Il]
 |cons x l w=>
  rw[LD];by_cases h:k=x.1
  .rw[au h,oW,oW];by_cases q:k'=k
   .simp[q]
   .have:¬k'=x.1:=λe=>q (by rw[e,h])
    simp[q,this]
  .rw[aq h,oW,w,oW];by_cases q:k'=x.1
   .have:¬k'=k:=λe=>h (by rw[<-e,q])
    simp[q,this];intro e;exact absurd e (λe=>h e.symm)
   .simp[q]
def KA (k:K) (v:V) (l:List (K×V)):getM (wA l k v) k=some v:=by rw[Qq];simp
theorem FD {k k':K} (h:k'≠k) (v:V) (l:List (K×V)):getM (wA l k v) k'=getM l k':=by rw[Qq,aq h]
variable {R:Type}
def uU {l:List (K×V)} {k:K} {v:V} (h:getM l k=some v) (f:V->Option R) (z:Option R):tH l k f z=f v:=by unfold tH;rw[h]
def B5 {l:List (K×V)} {k:K} (h:getM l k=none) (f:V->Option R) (z:Option R):tH l k f z=z:=by unfold tH;rw[h]
def sB {l:Type} (x:l) (k:l->Option R):tA x k=k x:=rfl
end
end Go.AM
namespace Go.Proofs.YthppjmoncapdfaaGreatDoor.cl
open Go Go.AM
