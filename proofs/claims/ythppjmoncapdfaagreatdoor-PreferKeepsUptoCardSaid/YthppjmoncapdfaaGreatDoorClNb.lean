/- The Closure laws. -/
import Derived.Test.YthppjmoncapdfaaGreatDoorClG
import Derived.Lib.DecodeN
set_option linter.all false
namespace Go.Proofs.YthppjmoncapdfaaGreatDoor.cl
open Go Go.AM
def h37 (l:List cL) (s:cL) (q:l.length<=1073741824):∀(xs:List cL) (i:Nat),l.drop i=xs->W8 l s i=some (decide (s∈xs)):=by intro xs;induction xs with
 |nil=>intro i h;refine k37_2 ?_;rw[bq h];simp
 |cons x xs w=>
  intro i h;refine k37_2 ?_;rw[bf h,ai,aQ h,aX h q,w (i+1) (aH h)];by_cases e:x=s
  .subst e;rw[cond_pos ah];simp
  .rw[cond_neg (by simpa using e)]
   have:¬s=x:=λh=>e h.symm
   simp[this]
def ZF (l:List cL) (s:cL) (q:l.length<=1073741824):f37 l s=some (decide (s∈l)):=e37 (h37 l s q l 0 rfl)
def h98 (l:List cL) (s:cL) (D:l.length<=1073741824):∀(xs:List cL) (i:Nat),l.drop i=xs->i<=l.length->Xi l s i []=some (l.take i++qp s xs):=by intro xs;induction xs with
 |nil=>
  intro i h w;refine k98_3 ?_;have B:=iq h;obtain rfl:i=l.length:=by omega
  rw[bq h,aA,aA,Dr (aU _),bh aF,bh aF,Dr (aU _),bh aF];simp[qp]
 |cons x xs G=>
  intro i h w;refine k98_3 ?_;have F:=c9 h;have z:l.take (i+1)=l.take i++[x]:=by rw[cr,bA h];rfl
  have q:(l.take l.length).drop i=x::xs:=by rw[fC,h]
  rw[bf h,ai,aQ h,ai,aQ h,aX h D,G (i+1) (aH h) af,qp];cases H:Op.bytesLess x s with
  |true=>simp[z]
  |false=>
   rw[aA];by_cases e:x=s
   .subst e;rw[cond_pos ah];simp only[az,cW,eC,<-h,jq]
   .rw[cond_neg (by simpa using e),Dr af,bU _ ah aF af,bU _ aF ah af,Dr af,bU _ aF aF af,aR,q];simp[e]
def c98 (l:List cL) (s:cL) (q:l.length<=1073741824):f98 l s=some (qp s l):=e98 (by
 have:=h98 l s q l 0 rfl af
 simpa using this)
def h111 (d:List aB) (s:cL) (l:d.length<=1073741824):∀(xs:List aB) (i:Nat),d.drop i=xs->Oe d s i=some (gK (λt=>t.Name==s) xs i):=by intro xs;induction xs with
 |nil=>intro i h;refine aaX ?_;rw[bq h];rfl
 |cons x xs q=>intro i h;refine aaX ?_;rw[bf h,ai,aQ h,aX h l,q (i+1) (aH h),gK];cases x.Name==s<;>rfl
def fd (d:List aB) (s:cL):Int:=gK (λt=>t.Name==s) d 0
def XD (d:List aB) (s:cL) (l:d.length<=1073741824):f111 d s=some (fd d s):=e111 (h111 d s l d 0 rfl)
abbrev jI (d:List aB):List cL:=d.map (·.Name)
def aaR {l:Type} (p:l->Bool):∀(xs:List l) (i:Nat),gK p xs i<0↔∀x∈xs,p x=false:=by intro xs;induction xs with
 |nil=>intro i;simp[gK]
 |cons x xs q=>intro i;rw[gK];cases h:p x with
  |true=>simp[h]
  |false=>simp[h,q (i+1)]
def V5 {B:Type} (p:B->Bool):∀(xs:List B) (i:Nat),(∃x∈xs,p x=true)->∃j,∃h:j<xs.length,gK p xs i=((i+j:Nat):Int)/\p xs[j]=true/\∀k (z:k<j),p (xs[k]'(by omega))=false:=by intro xs;induction xs with
 |nil=>intro i h;obtain⟨x,G,_⟩:=h;cases G
 |cons x xs H=>intro i h;rw[gK];cases q:p x with
  |true=>exact⟨0,by simp,by simp,by simpa using q,λk z=>by omega⟩
  |false=>
   obtain⟨j,I,e,D,F⟩:=H (i+1) (by
    obtain⟨y,w,l⟩:=h;rcases aG.1 w with rfl|w
    .rw[q] at l;cases l
    .exact⟨y,w,l⟩)
   refine⟨j+1,by simp;omega,?_,by simpa using D,?_⟩
   .simp only[cW,eC,e];congr 1;omega
   .intro k z;cases k with
    |zero=>simpa using q
    |succ k=>simpa using F k af
def MC {d:List aB} {s:cL}:fd d s<0↔s∉jI d:=by
 rw[fd,aaR];constructor
 .intro h q;obtain⟨t,l,e⟩:=aD.1 q;have:=h t l;simp[e] at this
 .intro h t l;simp only[iN,ne_eq];exact λe=>h (e▸iQ l)
def GU {d:List aB} {s:cL} (h:s∈jI d):∃j,∃l:j<d.length,fd d s=(j:Int)/\d[j].Name=s/\∀k (q:k<j),(d[k]'(by omega)).Name≠s:=by obtain⟨t,D,e⟩:=aD.1 h;obtain⟨j,l,w,z,B⟩:=V5 (λt:aB=>t.Name==s) d 0 ⟨t,D,by simpa using e⟩;exact⟨j,l,by rw[fd,w];simp,by simpa using z,λk q=>by simpa using B k q⟩
def h52 (d:List aB) (l:d.length<=1073741824):∀(xs:List aB) (i:Nat) (o:List cL),d.drop i=xs->o.length<=i->W9 d o i=some ((xs.map (·.Name)).foldl (λo s=>qp s o) o):=by intro xs;induction xs with
 |nil=>intro i o h q;refine k52_3 ?_;rw[bq h];rfl
 |cons x xs w=>intro i o h q;refine k52_3 ?_;have:=c9 h;have:=mK x.Name o;rw[bf h,ai,aQ h,aX h l,c98 _ _ af,ak,w (i+1) _ (aH h) af];rfl
def c52 (d:List aB) (l:d.length<=1073741824):f52 d=some (mA (jI d)):=e52 (h52 d l d 0 [] rfl ah)
def SZ (d:List aB):Bool:=decide (d.length>256)||d.any λt=>decide (t.dH.length>256)||decide (t.cE.length>256)
def h70 (d:List aB) (z:d.length<=1073741824):∀(xs:List aB) (i:Nat),d.drop i=xs->Xf d i=some (if(xs.any λt=>decide (t.dH.length>256)||decide (t.cE.length>256))=true then 7 else 0):=by intro xs;induction xs with
 |nil=>intro i h;refine k70_4 ?_;rw[bq h];rfl
 |cons x xs B=>
  intro i h;refine k70_4 ?_;rw[bf h,ai,aQ h,aQ h,aX h z,B (i+1) (aH h),qy];by_cases l:x.dH.length>256
  .rw[cond_pos aF];simp[l]
  .rw[cond_neg aF];by_cases q:x.cE.length>256
   .rw[cond_pos aF];simp[q]
   .rw[cond_neg aF];have e1:decide (x.dH.length>256)=false:=by simpa using l
    have w:decide (x.cE.length>256)=false:=by simpa using q
    rw[e1,w,iL,iL]
def c70 (d:List aB):f70 d=some (if SZ d=true then 7 else 0):=by
 refine e70 ?_;by_cases h:d.length>256
 .rw[cond_pos aF];simp[SZ,h]
 .rw[cond_neg aF];have e:decide (d.length>256)=false:=by simpa using h
  rw[SZ,e,iL];exact h70 d af d 0 rfl
def nN (c:UInt8):Bool:=decide (48<=c.toNat)&&decide (c.toNat<=57)
def lowerB (c:UInt8):Bool:=decide (97<=c.toNat)&&decide (c.toNat<=122)
def isName (s:cL):Bool:=decide (1<=s.length)&&decide (s.length<=32)&& !nN (s.getD 0 0)&& !(s.getD 0 0).toNat==45&&s.all λc=>nN c||c.toNat==45||lowerB c
def c159 (c:UInt8):f159 (c.toNat:Int)=some (nN c):=by
 refine e159 ?_;by_cases h:48<=c.toNat
 .rw[cond_pos aF];simp only[nN,h,uc,gl];congr 1;rw[mV];omega
 .rw[cond_neg aF];simp[nN,h]
def c167 (c:UInt8):f167 (c.toNat:Int)=some (lowerB c):=by
 refine e167 ?_;by_cases h:97<=c.toNat
 .rw[cond_pos aF];simp only[lowerB,h,uc,gl];congr 1;rw[mV];omega
 .rw[cond_neg aF];simp[lowerB,h]
def c160 (c:UInt8):f160 (c.toNat:Int) false=some (nN c||c.toNat==45||lowerB c):=by refine e160 ?_;rw[c159,ak,c167,ak];cases nN c with
 |true=>rfl
 |false=>
  by_cases h:c.toNat=45
  .rw[aA,cond_pos aF];simp[h]
  .rw[aA,cond_neg aF];simp[h]
def h140 (s:cL) (l:s.length<=1073741824):∀(xs:cL) (i:Nat),s.drop i=xs->JP s false i=some (xs.all λc=>nN c||c.toNat==45||lowerB c):=by intro xs;induction xs with
 |nil=>intro i h;refine MY ?_;rw[bq h];rfl
 |cons x xs q=>intro i h;refine MY ?_;rw[bf h,ai,aQ h,c160,ak,aX h l,q (i+1) (aH h),gP];cases(nN x||x.toNat==45||lowerB x)<;>rfl
def c110 (s:cL):f110 s=some (isName s):=by
 refine e110 ?_
 have:f140 s false=some (isName s):=by
  refine e140 ?_;by_cases l:1<=s.length
  .rw[cond_neg aF];by_cases q:s.length<=32
   .rw[cond_neg aF,show(0:Int)=((0:Nat):Int) from rfl,bS af,c159,ak,bS af,h140 s af s 0 rfl];have z:s.getD 0 0=s[0]:=by rw[aZ,aM af];rfl
    unfold isName;rw[z];cases nN s[0] with
    |true=>simp[l,q]
    |false=>
     by_cases w:s[0].toNat=45
     .rw[aA,cond_pos aF];simp[w]
     .rw[aA,cond_neg aF];simp[l,q,w]
   .rw[cond_pos aF];simp[isName,q]
  .rw[cond_pos aF];simp[isName,l]
 rw[this];rfl
def vO:List cL->List aB->Int
 |_,[]=>0
 |l,t::q=>if isName t.Name=false then 1 else if t.Name∈l then 4 else vO (l++[t.Name]) q
def fd_lt {d:List aB} {i:Nat} {t:aB} {H:List aB} (h:d.drop i=t::H):fd d t.Name<(i:Int)↔t.Name∈(d.take i).map (·.Name):=by
 have L:=c9 h;have l:d[i]? =some t:=bA h;obtain⟨j,N,e,B,D⟩:=GU (d:=d) (s:=t.Name) (iQ (aI l));rw[e];constructor
 .intro F;have q:j<i:=by omega
  refine aD.2 ⟨d[j],?_,B⟩;rw[ud];exact⟨j,by omega,rfl⟩
 .intro G;obtain⟨u,w,z⟩:=aD.1 G;rw[ud] at w;obtain⟨k,O,rfl⟩:=w;apply dz;intro I;exact D k af z
def h71 (d:List aB) (q:d.length<=1073741824):∀(xs:List aB) (i:Nat),d.drop i=xs->Xg d i=some (vO ((d.take i).map (·.Name)) xs):=by intro xs;induction xs with
 |nil=>intro i h;refine k71_2 ?_;rw[bq h];rfl
 |cons x xs B=>
  intro i h;refine k71_2 ?_;have z:d.take (i+1)=d.take i++[x]:=by rw[cr,bA h];rfl
  rw[bf h,ai,aQ h,c110,ak,aQ h,XD d _ q,ak,aX h q,B (i+1) (aH h),vO,z];cases D:isName x.Name with
  |false=>rfl
  |true=>
   rw[gC,aA];by_cases l:x.Name∈(d.take i).map (·.Name)
   .rw[cond_pos (by simpa using(fd_lt h).2 l)];simp only[xV,eC,l,fS]
   .rw[cond_neg (by simpa using λw=>l ((fd_lt h).1 w))];simp only[xV,eC,l,bM,aS,dR]
def c71 (d:List aB) (l:d.length<=1073741824):f71 d=some (vO [] d):=e71 (h71 d l d 0 rfl)
def spK (q:List cL):List cL->List cL->Int
 |_,[]=>0
 |l,s::ss=>if s∉q then 5 else if s∈l then 4 else spK q (l++[s]) ss
def xu (l:List cL):List aB->Int
 |[]=>0
 |t::q=>if spK l [] t.dH=0 then xu l q else spK l [] t.dH
def h72b (d:List aB) (F:d.length<=1073741824) (i:Nat) (L:i<d.length) (l:List cL) (z:l.length<=1073741824) {r:Int} (H:Sh d (i+1:Nat)=some r):∀(xs:List cL) (k:Nat),l.drop k=xs->
  Xh d i l k=some (if spK (jI d) (l.take k) xs=0 then r else spK (jI d) (l.take k) xs):=by
 intro xs;induction xs with
 |nil=>intro k h;refine k72_6 ?_;rw[bq h,aA,bp af,H];rfl
 |cons x xs I=>
  intro k h;refine k72_6 ?_;have G:=c9 h;have D:l.take (k+1)=l.take k++[x]:=by rw[cr,bA h];rfl
  rw[bf h,ai,aQ h,XD d _ F,ak,spK];by_cases q:x∈jI d
  .rw[cond_neg (by simpa using λB=>(MC.1 B) q),Dr af,aQ h,ZF _ _ aF,ak,aX h z,I (k+1) (aH h),D];have e:List.drop 0 (List.take (Int.toNat (k:Int)) l)=l.take k:=ah;rw[e];by_cases w:x∈l.take k
   .rw[cond_pos (by simpa using w)];simp only[q,qz,eC,w,fS];rfl
   .rw[cond_neg (by simpa using w)];simp only[q,qz,eC,w]
  .rw[cond_pos (by simpa using MC.2 q)];simp only[q,not_false_eq_true,fS];rfl
def h72 (d:List aB) (l:d.length<=1073741824) (q:∀t∈d,t.dH.length<=1073741824):∀(xs:List aB) (i:Nat),d.drop i=xs->Sh d i=some (xu (jI d) xs):=by intro xs;induction xs with
 |nil=>intro i h;refine k72_2 ?_;rw[bq h];rfl
 |cons x xs w=>intro i h;refine k72_2 ?_;rw[bf h,ai,aQ h];exact h72b d l i (c9 h) _ (q x (aI (bA h))) (w (i+1) (aH h)) _ 0 rfl
def c72 (d:List aB) (l:d.length<=1073741824) (q:∀t∈d,t.dH.length<=1073741824):f72 d=some (xu (jI d) d):=e72 (h72 d l q d 0 rfl)
def I1:∀(d:List aB) (l:List cL),vO l d=0↔(∀t∈d,isName t.Name=true)/\(jI d).Nodup/\∀t∈d,t.Name∉l:=by intro d;induction d with
 |nil=>intro l;simp[vO]
 |cons t d I=>intro l;unfold vO;cases F:isName t.Name with
  |false=>simp[F]
  |true=>
   by_cases D:t.Name∈l
   .simp[D]
   .simp only[xV,eC,D,I,bw,bX,aS,fA,aG,jW];constructor
    .rintro⟨z,B,w⟩;refine⟨?_,⟨?_,B⟩,?_⟩
     .rintro u (rfl|q)
      .exact F
      .exact z u q
     .intro H;obtain⟨u,q,e⟩:=aD.1 H;exact(w u q).2.1 e
     .rintro u (rfl|q)
      .exact D
      .exact(w u q).1
    .rintro⟨z,⟨B,w⟩,G⟩;refine⟨λu q=>z u (.inr q),w,λu q=>⟨G u (.inr q),λe=>B (by rw[<-e];exact iQ q),ah⟩⟩
def adh (H:List cL):∀(l q:List cL),spK H q l=0↔(∀s∈l,s∈H)/\l.Nodup/\∀s∈l,s∉q:=by intro l;induction l with
 |nil=>intro q;simp[spK]
 |cons s l N=>
  intro q;unfold spK;by_cases B:s∈H
  .by_cases F:s∈q
   .simp[B,F]
   .simp only[B,qz,eC,F,N,bw,bX,fA,aG,jW];constructor
    .rintro⟨D,G,z⟩;refine⟨?_,⟨λL=>(z s L).2.1 rfl,G⟩,?_⟩
     .rintro u (rfl|w)
      .exact B
      .exact D u w
     .rintro u (rfl|w)
      .exact F
      .exact(z u w).1
    .rintro⟨D,⟨G,z⟩,I⟩;exact⟨λu w=>D u (.inr w),z,λu w=>⟨I u (.inr w),λe=>G (by rw[<-e];exact w),ah⟩⟩
  .simp[B]
def JG (q:List cL):∀(d:List aB),xu q d=0↔∀t∈d,(∀s∈t.dH,s∈q)/\t.dH.Nodup:=by intro d;induction d with
 |nil=>simp[xu]
 |cons t d B=>
  unfold xu;have:=adh q t.dH [];split
  .rename_i h;rw[B];have w:=this.1 h;simp only[aG,forall_eq_or_imp];exact⟨λl=>⟨⟨w.1,w.2.1⟩,l⟩,λl=>l.2⟩
  .rename_i h;constructor
   .intro z;exact absurd z h
   .intro l;exact absurd (this.2 ⟨(l t ah).1,(l t ah).2,ah⟩) h
end Go.Proofs.YthppjmoncapdfaaGreatDoor.cl
namespace Go.Proofs.YthppjmoncapdfaaGreatDoor.cl
open Go Go.AM
def h112 (t:aB) (o:List cL) (l:o.length<=1073741824) (q:t.dH.length<=1073741824):∀(xs:List cL) (i:Nat),t.dH.drop i=xs->Of o i t=some (xs.all λs=>decide (s∈o)):=by intro xs;induction xs with
 |nil=>intro i h;refine aaY ?_;rw[bq h];rfl
 |cons x xs z=>intro i h;refine aaY ?_;rw[bf h,ai,aQ h,ZF _ _ l,ak,aX h q,z (i+1) (aH h),gP];by_cases w:x∈o<;>simp[w]
def c112 (t:aB) (o:List cL) (l:o.length<=1073741824) (q:t.dH.length<=1073741824):f112 t o=some (t.dH.all λs=>decide (s∈o)):=e112 (h112 t o l q _ 0 rfl)
structure Sz (d:List aB):Prop where
 len:d.length<=1048576
 sup:∀t∈d,t.dH.length<=1048576
structure SJ (d:List aB) (o:List cL):Prop where
 nd:o.Nodup
 sub:∀x∈o,x∈jI d
 pre:∀i x,o[i]? =some x->∃t∈d,t.Name=x/\∀s∈t.dH,s∈o.take i
def Rdy (d:List aB) (o:List cL) (x:cL):Prop:=∃t∈d,t.Name=x/\x∉o/\∀s∈t.dH,s∈o
def SJ.len {d:List aB} {o:List cL} (h:SJ d o):o.length<=d.length:=by have:=jd h.nd h.sub;simpa using this
def h73b {d:List aB} (z:Sz d) {o:List cL} (ho:o.length<=d.length):∀(xs:List aB) (i:Nat) (more:Bool) (next:cL),d.drop i=xs->(more=true->Rdy d o next)->
  ∃(l:Bool) (q:cL),(l=true->Rdy d o q)/\(l=false->∀t∈xs,t.Name∉o->∃s∈t.dH,s∉o)/\(more=true->l=true)/\
   ∀r,Km d l (if l=true then o++[q] else o)=some r->Eu d more next i o=some r:=by
 have hl:=z.len;intro xs;induction xs with
 |nil=>
  intro i more next h N
  refine⟨more,next,N,λ_ t B=>(by cases B),λh=>h,λr w=> ?_⟩;refine Wy ?_;rw[bq h,aA];cases more with
  |true=>rw[ai,bU _ af ah af];rw[az rfl] at w;exact w
  |false=>rw[aA];rw[au ah] at w;exact w
 |cons x xs ih=>
  intro i more next h N
  have hx:x∈d:=aI (bA h);by_cases L:x.Name∈o
  .obtain⟨Q,S,H,a2,F,I⟩:=ih (i+1) more next (aH h) N
   refine⟨Q,S,H,λe t B G=> ?_,F,λr w=> ?_⟩
   .rcases aG.1 B with rfl|B
    .exact absurd L G
    .exact a2 e t B G
   .refine Wy ?_;rw[bf h,ai,aQ h,ZF _ _ af,ak,cond_pos (by simpa using L),aX h af];exact I r w
  .by_cases h2:∀s∈x.dH,s∈o
   .have O:Rdy d o x.Name:=⟨x,hx,rfl,L,h2⟩
    have D:(x.dH.all λs=>decide (s∈o))=true:=by rw[cz];intro s P;simpa using h2 s P
    have go:∀U,Rdy d o U->(more=false->U=x.Name)->(more=true->U=if Op.bytesLess x.Name next=true then x.Name else next)->∃(l:Bool) (q:cL),(l=true->Rdy d o q)/\(l=false->∀t∈x::xs,t.Name∉o->∃s∈t.dH,s∉o)/\(more=true->l=true)/\
      ∀r,Km d l (if l=true then o++[q] else o)=some r->Eu d more next i o=some r:=by
     intro U G e1 e2;obtain⟨Q,S,H,a2,F,I⟩:=ih (i+1) true U (aH h) (λ_=>G);refine⟨Q,S,H,λe=>(by rw[F rfl] at e;cases e),λ_=>F rfl,λr w=> ?_⟩;have w:=I r w;refine Wy ?_;rw[bf h,ai,aQ h,ZF _ _ af,ak,cond_neg (by simpa using L),aQ h,c112 _ _ af (by have:=z.sup x hx;omega),ak,D,gC,aA];cases more with
     |false=>rw[mW,ai,aQ h,aX h af];rw[e1 rfl] at w;exact w
     |true=>rw[gC,aA,aQ h,aQ h,aX h af];have:=e2 rfl;cases hb:Op.bytesLess x.Name next with
      |true=>rw[hb,az rfl] at this;rw[this] at w;rw[ai];exact w
      |false=>rw[hb] at this;simp only[cW,eC] at this;rw[this] at w;rw[aA];exact w
    cases hm:more with
    |false=>rw[hm] at go;exact go x.Name O (λ_=>rfl) (λe=>by cases e)
    |true=>
     rw[hm] at go;refine go _ ?_ (λe=>by cases e) (λ_=>rfl);split
     .exact O
     .exact N hm
   .obtain⟨Q,S,H,a2,F,I⟩:=ih (i+1) more next (aH h) N
    have D:(x.dH.all λs=>decide (s∈o))=false:=by apply dz;intro hc;rw[xW,cz] at hc;exact h2 λs P=>by simpa using hc s P
    refine⟨Q,S,H,λe t B G=> ?_,F,λr w=> ?_⟩
    .rcases aG.1 B with rfl|B
     .apply dz;intro hc;exact h2 λs P=>dz λVU=>hc ⟨s,P,VU⟩
     .exact a2 e t B G
    .refine Wy ?_;rw[bf h,ai,aQ h,ZF _ _ af,ak,cond_neg (by simpa using L),aQ h,c112 _ _ af (by have:=z.sup x hx;omega),ak,D,mW,ai,aX h af];exact I r w
def h73 {d:List aB} (z:Sz d):∀(n:Nat) (o:List cL),d.length-o.length=n->SJ d o->
  ∃out,SJ d out/\(∀t∈d,t.Name∉out->∃s∈t.dH,s∉out)/\Km d true o=some out:=by
 intro n;induction n with
 |zero=>intro o hn w;have q:=w.len;obtain⟨S,I,L,N,U,F⟩:=h73b z q d 0 false [] rfl (λe=>by cases e);cases S with
  |false=>refine⟨o,w,N rfl,?_⟩;refine Rb ?_;rw[ai];refine F _ ?_;refine Rb ?_;simp
  |true=>
   obtain⟨t,H,e,B,G⟩:=L rfl
   have:(o++[I]).length<=(jI d).length:=jd (by
    rw[gW]
    exact⟨w.nd,by simp,λa O b D=>by simp only[bX] at D;subst D;exact λe=>B (e▸O)⟩) (λx l=>by
     rcases bw.1 l with l|l
     .exact w.sub x l
     .simp only[bX] at l;subst l;rw[<-e];exact iQ H)
   simp at this;omega
 |succ n ih=>intro o hn w;have q:=w.len;obtain⟨S,I,L,N,U,F⟩:=h73b z q d 0 false [] rfl (λe=>by cases e);cases S with
  |false=>refine⟨o,w,N rfl,?_⟩;refine Rb ?_;rw[ai];refine F _ ?_;refine Rb ?_;simp
  |true=>
   obtain⟨t,H,e,B,G⟩:=L rfl;have hT:SJ d (o++[I]):=by
    refine⟨?_,?_,?_⟩
    .rw[gW];exact⟨w.nd,by simp,λa O b D=>by simp only[bX] at D;subst D;exact λe=>B (e▸O)⟩
    .intro x l;rcases bw.1 l with l|l
     .exact w.sub x l
     .simp only[bX] at l;subst l;rw[<-e];exact iQ H
    .intro i x l;by_cases hi:i<o.length
     .rw[dD hi] at l;obtain⟨u,hu,e1,h1⟩:=w.pre i x l;exact⟨u,hu,e1,λs G=>by rw[xX af];exact h1 s G⟩
     .have P:i=o.length:=by
       apply dz;intro hc;rw[fB aF] at l;cases l
      subst P;rw[ga af,mS] at l;simp only[CU,aN] at l;subst l;exact⟨t,H,e,λs Q=>by rw[List.take_left'];exact G s Q;rfl⟩
   obtain⟨out,b1,b2,b3⟩:=ih (o++[I]) aF hT;refine⟨out,b1,b2,?_⟩;refine Rb ?_;rw[ai];exact F _ b3
def c73 {d:List aB} (z:Sz d):∃out,SJ d out/\(∀t∈d,t.Name∉out->∃s∈t.dH,s∉out)/\f73 d=some out:=by obtain⟨out,q,w,B⟩:=h73 z _ [] rfl ⟨ah,λx l=>(by cases l),λi x l=>(by simp at l)⟩;exact⟨out,q,w,e73 B⟩
def BR (d:List aB):Prop:=∃r:cL->Nat,∀t∈d,∀s∈t.dH,r s<r t.Name
def Jp {d:List aB} {o:List cL} (O:(jI d).Nodup) (F:SJ d o) (L:∀t∈d,t.Name∈o):BR d:=by
 refine⟨λx=>o.idxOf x,λt G s P=> ?_⟩;have N:=L t G;have D:o.idxOf t.Name<o.length:=List.idxOf_lt_length_iff.2 N;have l:o[o.idxOf t.Name]? =some t.Name:=by rw[aM D,List.getElem_idxOf D]
 obtain⟨u,Q,e,q⟩:=F.pre _ _ l;have B:u=t:=by
  obtain⟨i,w,rfl⟩:=iz.1 Q;obtain⟨j,z,rfl⟩:=iz.1 G
  have:(jI d)[i]'(by simpa using w)=(jI d)[j]'(by simpa using z):=by simpa using e
  have:=(qW O).1 this;subst this;rfl
 subst B;have:=q s P;rw[ud] at this;obtain⟨k,S,rfl⟩:=this;show o.idxOf o[k]<_;have H:o.idxOf o[k]=k:=F.nd.idxOf_getElem k af;have I:k<o.idxOf u.Name:=af;rw[H];exact I
def Iw {d:List aB} {o:List cL} (l:∀t∈d,∀s∈t.dH,s∈jI d) (q:∀t∈d,t.Name∉o->∃s∈t.dH,s∉o) (z:BR d):∀t∈d,t.Name∈o:=by
 obtain⟨r,z⟩:=z;have key:∀(n:Nat) (t:aB),t∈d->r t.Name=n->t.Name∈o:=by intro n;induction n using Nat.strongRecOn with
  |_ n H=>intro t w e;apply dz;intro F;obtain⟨s,D,B⟩:=q t w F;obtain⟨u,G,rfl⟩:=aD.1 (l t w s D);have:=z t w _ D;exact B (H (r u.Name) af u G rfl)
 exact λt w=>key _ t w rfl
def CB (d:List aB):Nat:=(d.filter λt=>t.dH.length==0).length
open Classical in
noncomputable def H9 (d:List aB):Int:=
 if SZ d=true then 7 else if vO [] d≠0 then vO [] d else if xu (jI d) d≠0 then xu (jI d) d else if CB d≠1 then 1 else if BR d then 0 else 6
def h32 {d:List aB} (z:Sz d) (P:vO [] d=0) (Q:xu (jI d) d=0):∀(xs:List aB) (i n:Nat),d.drop i=xs->n<=i->
  JR d n i=some (open Classical in if n+CB xs≠1 then 1 else if BR d then 0 else 6):=by
 have hl:=z.len;intro xs;induction xs with
 |nil=>
  intro i n h U;refine aa8 ?_;obtain⟨out,G,L,N⟩:=c73 z;have B:=((I1 d []).1 P).2.1;have w:∀t∈d,∀s∈t.dH,s∈jI d:=λt D=>((JG _ d).1 Q t D).1
  rw[bq h,aA];have O:n+CB []=n:=rfl;rw[O];by_cases H:n=1
  .rw[cond_neg aF,N,ak,au af];by_cases F:BR d
   .have l:=Iw w L F
    have:(jI d).length<=out.length:=jd B λx q=>by obtain⟨t,D,rfl⟩:=aD.1 q;exact l t D
    simp only[aV] at this;rw[cond_neg aF,az F]
   .have:out.length<d.length:=by
     apply dz;intro hc;apply F;refine Jp B G λt D=> ?_
     exact UC G.nd G.sub aF _ (iQ D)
    rw[cond_pos aF,au F]
  .rw[cond_pos aF,az H]
 |cons x xs I=>
  intro i n h U;refine aa8 ?_;have S:=c9 h;rw[bf h,ai,aQ h,aX h af,bp af];by_cases q:x.dH.length=0
  .rw[cond_pos (by simpa using q),I (i+1) (n+1) (aH h) af]
   have:CB (x::xs)=CB xs+1:=by simp[CB,fL,q]
   rw[this,show n+1+CB xs=n+(CB xs+1) by omega]
  .rw[cond_neg (by simpa using q),I (i+1) n (aH h) af]
   have:CB (x::xs)=CB xs:=by
    have:(x.dH.length==0)=false:=by simpa using q
    simp[CB,fL,this]
   rw[this]
def c32 {d:List aB} (z:Sz d):f32 d=some (H9 d):=by
 have D:=z.len;refine e32 ?_;rw[c70,ak,c71 d af,ak,c72 d af (λt B=>by have:=z.sup t B;omega),ak];unfold H9;by_cases q:SZ d=true
 .rw[az q,az q];rfl
 .rw[au q,au q];by_cases l:vO [] d=0
  .by_cases w:xu (jI d) d=0
   .have:=h32 z l w d 0 0 rfl af;rw[l,w,au ah,au ah];simpa using this
   .rw[az w,l,au ah];rw[cond_neg ah,cond_neg ah,cond_pos (by simpa using w)]
  .rw[az l,cond_neg ah,cond_pos (by simpa using l)]
structure Acc (d:List aB):Prop where
 nd:(jI d).Nodup
 name:∀t∈d,isName t.Name=true
 dec:∀t∈d,∀s∈t.dH,s∈jI d
 top:CB d=1
 rk:BR d
def HC {d:List aB} (h:H9 d=0):Acc d:=by
 unfold H9 at h;split at h
 .cases h
 split at h
 .rename_i l;exact absurd h l
 split at h
 .rename_i l;exact absurd h l
 split at h
 .cases h
 split at h
 .rename_i I l D F G;have q:vO [] d=0:=dz l;have w:xu (jI d) d=0:=dz D;obtain⟨z,B,_⟩:=(I1 d []).1 q;exact⟨B,z,λt H=>((JG _ d).1 w t H).1,dz F,G⟩
 .cases h
end Go.Proofs.YthppjmoncapdfaaGreatDoor.cl
namespace Go.Proofs.YthppjmoncapdfaaGreatDoor.cl
open Go Go.AM
def dn (d:List aB) (x:cL):List cL:=(d.filter λt=>decide (x∈t.dH)).map (·.Name)
def up (d:List aB) (x:cL):List cL:=match d.find? (λt=>t.Name==x) with
 |some t=>t.dH
 |none=>[]
def IV {d:List aB} {x y:cL}:y∈dn d x↔∃t∈d,t.Name=y/\x∈t.dH:=by simp only[dn,aD,cH,jZ];exact⟨λ⟨t,⟨l,q⟩,w⟩=>⟨t,l,w,q⟩,λ⟨t,l,w,q⟩=>⟨t,⟨l,q⟩,w⟩⟩
def Tr {d:List aB} {x y:cL} (h:y∈dn d x):y∈jI d:=by obtain⟨t,l,e,_⟩:=IV.1 h;exact e▸iQ l
def nd_eq {d:List aB} (w:(jI d).Nodup) {t u:aB} (z:t∈d) (B:u∈d) (e:t.Name=u.Name):t=u:=by
 obtain⟨i,l,rfl⟩:=iz.1 z;obtain⟨j,q,rfl⟩:=iz.1 B
 have:(jI d)[i]'(by simpa using l)=(jI d)[j]'(by simpa using q):=by simpa using e
 have:=(qW w).1 this;subst this;rfl
def adp {d:List aB} (z:(jI d).Nodup) {t:aB} (l:t∈d):up d t.Name=t.dH:=by unfold up;cases e:d.find? (λu=>u.Name==t.Name) with
 |none=>rw[tX] at e;exact absurd (e t l) ah
 |some u=>have q:=oI e;have w:=oH e;rw[nd_eq z w l (by simpa using q)]
def acA {d:List aB} (q:(jI d).Nodup) {x y:cL} (z:x∈jI d):y∈up d x↔x∈dn d y:=by
 obtain⟨t,l,rfl⟩:=aD.1 z;rw[adp q l,IV];constructor
 .intro h;exact⟨t,l,rfl,h⟩
 .rintro⟨u,w,e,h⟩;rw[nd_eq q w l e] at h;exact h
abbrev Le (d:List aB) (x y:cL):Prop:=rX (dn d) x y
def RN {d:List aB} (A:Acc d) {x y:cL} (D:x∈jI d) (h:rX (up d) x y):y∈jI d/\Le d y x:=by induction h with
 |refl=>exact⟨D, .refl⟩
 | @step y z G l F=>
  obtain⟨w,B⟩:=F;refine⟨?_,?_⟩
  .obtain⟨t,q,e⟩:=aD.1 w;subst e;rw[adp A.nd q] at l;exact A.dec t q _ l
  .exact rX.trans (.step .refl ((acA A.nd w).1 l)) B
def rX.head {next:cL->List cL} {x y z:cL} (l:y∈next x) (q:rX next y z):rX next x z:=rX.trans (.step .refl l) q
def adq {d:List aB} (A:Acc d) {x y:cL} (h:Le d y x):rX (up d) x y:=by induction h with
 |refl=>exact .refl
 | @step u v w l q=>exact rX.head ((acA A.nd (Tr l)).2 l) q
def NR {d:List aB} (A:Acc d) {x y:cL} (l:x∈jI d):rX (up d) x y↔Le d y x:=⟨λh=>(RN A l h).2,adq A⟩
def Ng {d:List aB} {r:cL->Nat} (l:∀t∈d,∀s∈t.dH,r s<r t.Name) {x y:cL} (h:Le d x y):x=y\/r x<r y:=by induction h with
 |refl=>exact .inl rfl
 |step _ z B=>
  obtain⟨t,w,rfl,q⟩:=IV.1 z;have:=l t w _ q;rcases B with rfl|h
  .exact .inr this
  .exact .inr af
theorem le_antisymm {d:List aB} (A:Acc d) {x y:cL} (w:Le d x y) (z:Le d y x):x=y:=by
 obtain⟨r,q⟩:=A.rk;rcases Ng q w with h|h
 .exact h
 .rcases Ng q z with l|l
  .exact l.symm
  .omega
def root {d:List aB} (A:Acc d):∃t∈jI d,∀y∈jI d,Le d t y:=by
 have q:=A.top;unfold CB at q;obtain⟨t,F⟩:=List.length_eq_one_iff.1 q;have B:t∈d.filter (λt=>t.dH.length==0):=by rw[F];simp
 refine⟨t.Name,iQ (cH.1 B).1,?_⟩;obtain⟨r,G⟩:=A.rk;have key:∀(n:Nat) (u:aB),u∈d->r u.Name=n->Le d t.Name u.Name:=by intro n;induction n using Nat.strongRecOn with
  |_ n L=>intro u z e;cases D:u.dH with
   |nil=>
    have:u∈d.filter (λt=>t.dH.length==0):=cH.2 ⟨z,by simp[D]⟩
    rw[F,bX] at this;subst this;exact .refl
   |cons s l=>
    have w:s∈u.dH:=by rw[D];simp
    obtain⟨v,H,rfl⟩:=aD.1 (A.dec u z s w);have:=G u z _ w;exact .step (L (r v.Name) af v H rfl) (IV.2 ⟨u,z,rfl,w⟩)
 intro y I;obtain⟨u,z,rfl⟩:=aD.1 I;exact key _ u z rfl
def h99b {d:List aB} (z:Sz d) {i:Nat} {x:cL}:∀(xs:List aB) (k:Nat) (o:List cL),d.drop k=xs->o[i]? =some x->o.length+xs.length<=2097152->∀r,
  Si d (i+1:Nat) (iK o ((xs.filter λt=>decide (x∈t.dH)).map (·.Name)))=some r->LZ d i k o=some r:=by
 have L:=z.len;intro xs;induction xs with
 |nil=>intro k o h w q r l;refine k99_8 ?_;have F:=(bF.1 w).1;rw[bq h,aA,bp af];exact l
 |cons t xs G=>
  intro k o h w q r l;refine k99_8 ?_;have F:=(bF.1 w).1;have I:t∈d:=aI (bA h);have H:=z.sup t I;simp only[bg] at q;rw[bf h,ai,aQ h,Tj F,aR,gF w,ZF _ _ af,ak,aX h af,aQ h,ZF _ _ af,ak,aQ h];rw[fL] at l;by_cases B:x∈t.dH
  .rw[cond_pos (by simpa using B)];rw[az (by simpa using B),aS] at l;by_cases D:t.Name∈o
   .rw[cond_neg (by simpa using D)];refine G (k+1) o (aH h) w af r ?_;have e:iK o (t.Name::(List.filter (λt=>decide (x∈t.dH)) xs).map (·.Name))=iK o ((List.filter (λt=>decide (x∈t.dH)) xs).map (·.Name)):=by simp[iK,D]
    rw[e] at l;exact l
   .rw[cond_pos (by simpa using D),bU _ af ah af];refine G (k+1) (o++[t.Name]) (aH h) (by rw[dD F];exact w) aF r ?_;have e:iK o (t.Name::(List.filter (λt=>decide (x∈t.dH)) xs).map (·.Name))=iK (o++[t.Name]) ((List.filter (λt=>decide (x∈t.dH)) xs).map (·.Name)):=by simp[iK,D]
    rw[e] at l;exact l
  .rw[cond_neg (by simpa using B)];rw[au (by simpa using B)] at l;exact G (k+1) o (aH h) w af r l
def h99c (o:List cL) (w:o.length<=1073741824):∀(xs:List cL) (i:Nat) (out:List cL),o.drop i=xs->out.length<=i->Fo out i o=some (xs.foldl (λo s=>qp s o) out):=by intro xs;induction xs with
 |nil=>intro i out h l;refine acs ?_;rw[bq h];rfl
 |cons x xs z=>intro i out h l;refine acs ?_;have q:=c9 h;have:=mK x out;rw[bf h,ai,s5 h,sY h,c98 _ _ af,ak,aX h w,z (i+1) _ (aH h) af];rfl
def c99 {d:List aB} (z:Sz d) {x:cL} (F:x∈jI d):∃l,f99 d x=some l/\SS l/\(∀y,y∈l↔Le d x y)/\l.length<=d.length:=by
 have Q:=z.len;obtain⟨o,O,G,H,I⟩:=search (next:=dn d) (U:=jI d) (x0:=x) F (λx _ y q=>Tr q) (R:=R99.T) (outer:=λi o=>Si d i o) (fin:=λo=>Fo [] 0 o)
  (λi o D L r w=>by
   refine k99_5 ?_
   rw[cond_neg aF];exact w)
  (λi o y D B q _ r w=>by
   have L:=(bF.1 q).1;refine k99_5 ?_;rw[cond_pos aF];simp only[aV] at D
   exact h99b z d 0 o rfl q af r w)
 simp only[aV] at H;have N:Fo [] 0 o=some (mA o):=h99c o af o 0 [] rfl ah;refine⟨mA o,?_,lJ o,λy=>by rw[gx,G],by have:=pE o;omega⟩;refine e99 ?_;obtain⟨j,P,e,_⟩:=GU F;rw[XD d _ af,ak,e,cond_neg ah];exact I _ N
def h138b {d:List aB} (z:Sz d) {i:Nat} {l:List cL} (G:l.length<=1048576):∀(xs:List cL) (k:Nat) (o:List cL),l.drop k=xs->i<o.length->o.length+xs.length<=2097152->∀r,
  JM d (i+1:Nat) (iK o xs)=some r->JN d i l k o=some r:=by
 have H:=z.len;intro xs;induction xs with
 |nil=>intro k o h D q r w;refine aa1 ?_;rw[bq h,aA,bp af];exact w
 |cons s xs F=>
  intro k o h D q r w;refine aa1 ?_;simp only[bg] at q;rw[bf h,ai,aQ h,ZF _ _ af,ak,aX h af,aQ h];by_cases B:s∈o
  .rw[cond_neg (by simpa using B)];refine F (k+1) o (aH h) D af r ?_;have e:iK o (s::xs)=iK o xs:=by simp[iK,B]
   rw[e] at w;exact w
  .rw[cond_pos (by simpa using B),bU _ af ah af];refine F (k+1) (o++[s]) (aH h) aF aF r ?_;have e:iK o (s::xs)=iK (o++[s]) xs:=by simp[iK,B]
   rw[e] at w;exact w
def h138c (o:List cL) (w:o.length<=1073741824):∀(xs:List cL) (i:Nat) (out:List cL),o.drop i=xs->out.length<=i->Bf out i o=some (xs.foldl (λo s=>qp s o) out):=by intro xs;induction xs with
 |nil=>intro i out h l;refine V7 ?_;rw[bq h];rfl
 |cons x xs z=>intro i out h l;refine V7 ?_;have q:=c9 h;have:=mK x out;rw[bf h,ai,s5 h,sY h,c98 _ _ af,ak,aX h w,z (i+1) _ (aH h) af];rfl
def c138 {d:List aB} (z:Sz d) (A:Acc d) {x:cL} (q:x∈jI d):∃l,f138 d x=some l/\SS l/\(∀y,y∈l↔Le d y x)/\l.length<=d.length:=by
 have hl:=z.len;obtain⟨o,h1,O,P,Q⟩:=search (next:=up d) (U:=jI d) (x0:=x) q (λx q y B=>(RN A q (.step .refl B)).1) (R:=R138.T) (outer:=λi o=>JM d i o) (fin:=λo=>Bf [] 0 o)
  (λi o I D r F=>by
   refine aa0 ?_
   rw[cond_neg aF];exact F)
  (λi o y I H B G r F=>by
   have D:=(bF.1 B).1;refine aa0 ?_;obtain⟨j,w,e,S,_⟩:=GU G;simp only[aV] at I;rw[cond_pos aF,Tj D,aR,gF B,XD d _ af,ak,e,bS w];have L:=z.sup _ (br w);refine h138b z af d[j].dH 0 o rfl D af r ?_;have N:up d y=d[j].dH:=by rw[<-S];exact adp A.nd (br w)
   rw[<-N];exact F)
 simp only[aV] at P;have U:Bf [] 0 o=some (mA o):=h138c o af o 0 [] rfl ah;refine⟨mA o,?_,lJ o,λy=>by rw[gx,O,NR A q],by have:=pE o;omega⟩;refine e138 ?_;obtain⟨j,w,e,_⟩:=GU q;rw[XD d _ af,ak,e,cond_neg ah];exact Q _ U
def h137 {d:List aB} (z:Sz d) (l:List cL) (G:l.length<=1048576):∀(xs:List cL) (i:Nat) (out:List cL),l.drop i=xs->out.length<=i->JL d l out i=some ((xs.filter λs=>decide (s∈jI d)).foldl (λo s=>qp s o) out):=by have L:=z.len;intro xs;induction xs with
 |nil=>intro i out h F;refine aaZ ?_;rw[bq h];rfl
 |cons x xs D=>
  intro i out h F;refine aaZ ?_;have H:=c9 h;have:=mK x out;rw[bf h,ai,aQ h,XD d _ af,ak,aX h af,aQ h,fL];by_cases w:x∈jI d
  .have B:fd d x>=0:=by
    apply dz;intro I;exact MC.1 af w
   rw[cond_pos (by simpa using B),c98 _ _ af,ak,D (i+1) _ (aH h) af,az (by simpa using w)];rfl
  .have q:=MC.2 w;rw[cond_neg (by simpa using q),D (i+1) _ (aH h) af,au (by simpa using w)]
def c137 {d:List aB} (z:Sz d) (l:List cL) (q:l.length<=1048576):f137 d l=some (mA (l.filter λs=>decide (s∈jI d))):=e137 (h137 z l q l 0 [] rfl ah)
open Classical in
noncomputable def ry (d:List aB) (all:List cL) (x:cL):Bool:=all.all λy=>decide (y=x)|| !decide (Le d y x)
def h104b {d:List aB} (z:Sz d) {all up:List cL} {i:Nat} {x:cL} (w:all[i]? =some x) (F:all.Nodup) (L:all.length<=1048576) (S:up.length<=1048576) (Q:∀y,y∈up↔Le d y x) {o:List cL} (U:o.length<=1048576) {r:List cL}:
  ∀(xs:List cL) (k:Nat) (l:Bool),all.drop k=xs->
  Fe d all (i+1:Nat) (if(l&&ry d xs x)=true then o++[x] else o)=some r->Ff d all i up l k o=some r:=by
 intro xs;have B:=(bF.1 w).1;induction xs with
 |nil=>
  intro k l h q;refine aaV ?_;rw[bq h,aA,bp af];have e:(l&&ry d [] x)=l:=by simp[ry]
  rw[e] at q;cases l with
  |true=>rw[ai,ey w,bU _ af ah af];rw[az rfl] at q;exact q
  |false=>rw[aA];rw[au ah] at q;exact q
 |cons y xs H=>
  intro k l h q;refine aaV ?_;rw[bf h,ai,aX h af,aQ h,ZF _ _ af,ak];have e:ry d (y::xs) x=((decide (y=x)|| !(open Classical in decide (Le d y x)))&&ry d xs x):=by simp[ry]
  rw[e] at q;cases l with
  |false=>rw[aA];refine H (k+1) false (aH h) ?_;rw[qO] at q⊢;exact q
  |true=>
   rw[ai];by_cases N:k=i
   .subst N;rw[bA h] at w;obtain rfl:y=x:=cU w;rw[cond_pos ah];refine H (k+1) true (aH h) ?_;have e1:(decide (y=y)|| !(open Classical in decide (Le d y y)))=true:=ah;rw[e1,gl] at q;exact q
   .have G:y≠x:=by
     intro e;subst e;have I:=bA h;have D:=c9 h;rw[aM D] at I;rw[aM B] at w;have:=(qW F).1 ((cU I).trans (cU w).symm);exact N this
    rw[cond_neg aF];refine H (k+1) _ (aH h) ?_;have O:decide (y=x)=false:=by simpa using G
    have P:decide (y∈up)=(open Classical in decide (Le d y x)):=by rw[mV];exact Q y
    rw[O,iL,gl] at q;rw[P];exact q
def h104 {d:List aB} (z:Sz d) (A:Acc d) {all:List cL} (q:all.Nodup) (l:all.length<=1048576) (F:∀x∈all,x∈jI d):∀(xs:List cL) (i:Nat) (o:List cL),all.drop i=xs->o.length<=i->
  Fe d all i o=some (o++xs.filter (ry d all)):=by
 have N:=z.len;intro xs;induction xs with
 |nil=>intro i o h G;refine aaU ?_;rw[bq h];simp
 |cons x xs w=>intro i o h G;refine aaU ?_;have D:=c9 h;obtain⟨u,H,_,B,I⟩:=c138 z A (F x (aI (bA h)));rw[bf h,ai,aQ h,H,ak];refine h104b z (bA h) q l af B af all 0 true rfl ?_;rw[gl,fL];cases L:ry d all x with
  |true=>rw[az rfl,az rfl,w (i+1) (o++[x]) (aH h) aF];simp
  |false=>rw[au ah,au ah,w (i+1) o (aH h) af]
noncomputable def u7 (d:List aB) (l:List cL):List cL:=(mA (l.filter λs=>decide (s∈jI d))).filter (ry d (mA (l.filter λs=>decide (s∈jI d))))
def c104 {d:List aB} (z:Sz d) (A:Acc d) (l:List cL) (q:l.length<=1048576):f104 d l=some (u7 d l):=by
 refine e104 ?_;rw[c137 z l q,ak];have B:=pE (l.filter λs=>decide (s∈jI d));have D:=kX (λs=>decide (s∈jI d)) l
 have:=h104 z A (all:=mA (l.filter λs=>decide (s∈jI d))) (lJ _).nodup af (λx w=>by
  have:=gx.1 w
  simpa using(cH.1 this).2) _ 0 [] rfl ah
 exact this
end Go.Proofs.YthppjmoncapdfaaGreatDoor.cl
namespace Go.AM
section
variable {K V:Type}
def RG (k:K):Ai ([]:List (K×V)) k=none:=by simp[Ai]
def LK (x:K×V) (l:List (K×V)) (k:K):Ai (x::l) k=open Classical in if k=x.1 then some 0 else(Ai l k).map (· +1):=by unfold Ai;rw[tU];by_cases h:k=x.1<;>simp[h]
def Iy (k:K):getM ([]:List (K×V)) k=none:=by simp[getM,RG]
def pe (x:K×V) (l:List (K×V)) (k:K):getM (x::l) k=open Classical in if k=x.1 then some x.2 else getM l k:=by
 unfold getM;rw[LK];by_cases h:k=x.1
 .simp[h]
 .simp only[h,eC];cases Ai l k<;>simp
def Jn (k:K) (v:V):wE [] k v=[(k,v)]:=by simp[wE,RG]
def LN (x:K×V) (l:List (K×V)) (k:K) (v:V):wE (x::l) k v=open Classical in if k=x.1 then(k,v)::l else x::wE l k v:=by
 unfold wE;rw[LK];by_cases h:k=x.1
 .simp[h]
 .simp only[h,eC];cases Ai l k<;>simp
def Qz (k k':K) (v:V):∀l:List (K×V),getM (wE l k v) k'=open Classical in if k'=k then some v else getM l k':=by intro l;induction l with
 |nil=>rw[Jn,pe,Iy]
 |cons x l w=>
  rw[LN];by_cases h:k=x.1
  .rw[az h,pe,pe];by_cases q:k'=k
   .simp[q]
   .have:¬k'=x.1:=λe=>q (by rw[e,h])
    simp[q,this]
  .rw[au h,pe,w,pe];by_cases q:k'=x.1
   .have:¬k'=k:=λe=>h (by rw[<-e,q])
    simp[q,this];intro e;exact absurd e (λe=>h e.symm)
   .simp[q]
def KJ (k:K) (v:V) (l:List (K×V)):getM (wE l k v) k=some v:=by rw[Qz];simp
theorem FP {k k':K} (h:k'≠k) (v:V) (l:List (K×V)):getM (wE l k v) k'=getM l k':=by rw[Qz,au h]
variable {R:Type}
def uY {l:List (K×V)} {k:K} {v:V} (h:getM l k=some v) (f:V->Option R) (z:Option R):tO l k f z=f v:=by unfold tO;rw[h]
def Cb {l:List (K×V)} {k:K} (h:getM l k=none) (f:V->Option R) (z:Option R):tO l k f z=z:=by unfold tO;rw[h]
def sG {l:Type} (x:l) (k:l->Option R):tH x k=k x:=rfl
end
end Go.AM
namespace Go.Proofs.YthppjmoncapdfaaGreatDoor.cl
open Go Go.AM
