/- The Closure laws. -/
import Derived.Test.YtacapiamkgkkjaaGreatDoorClG
import Derived.Lib.DecodeN
set_option linter.all false
namespace Go.Proofs.YtacapiamkgkkjaaGreatDoor.cl
open Go Go.AM
def h37 (l:List bV) (s:bV) (q:l.length<=1073741824):∀(xs:List bV) (i:Nat),l.drop i=xs->Zg l s i=some (decide (s∈xs)):=by intro xs;induction xs with
 |nil=>intro i h;refine k37_2 ?_;rw[bg h];simp
 |cons x xs w=>
  intro i h;refine k37_2 ?_;rw[aR h,aj,aK h,aN h q,w (i+1) (aI h)];by_cases e:x=s
  .subst e;rw[cond_pos ai];simp
  .rw[cond_neg (by simpa using e)]
   have:¬s=x:=λh=>e h.symm
   simp[this]
def c37 (l:List bV) (s:bV) (q:l.length<=1073741824):f37 l s=some (decide (s∈l)):=e37 (h37 l s q l 0 rfl)
def h98 (l:List bV) (s:bV) (D:l.length<=1073741824):∀(xs:List bV) (i:Nat),l.drop i=xs->i<=l.length->Zs l s i []=some (l.take i++rP s xs):=by intro xs;induction xs with
 |nil=>
  intro i h w;refine k98_3 ?_;have B:=j0 h;obtain rfl:i=l.length:=by omega
  rw[bg h,au,au,EW (aQ _),b9 aH,b9 aH,EW (aQ _),b9 aH];simp[rP]
 |cons x xs G=>
  intro i h w;refine k98_3 ?_;have F:=eM h;have z:l.take (i+1)=l.take i++[x]:=by rw[dy,bU h];rfl
  have q:(l.take l.length).drop i=x::xs:=by rw[fZ,h]
  rw[aR h,aj,aK h,aj,aK h,aN h D,G (i+1) (aI h) af,rP];cases H:Op.bytesLess x s with
  |true=>simp[z]
  |false=>
   rw[au];by_cases e:x=s
   .subst e;rw[cond_pos ai];simp only[aC,eG,e8,<-h,jZ]
   .rw[cond_neg (by simpa using e),EW af,cF _ ai aH af,cF _ aH ai af,EW af,cF _ aH aH af,aS,q];simp[e]
def c98 (l:List bV) (s:bV) (q:l.length<=1073741824):f98 l s=some (rP s l):=e98 (by
 have:=h98 l s q l 0 rfl af
 simpa using this)
def h111 (d:List aB) (s:bV) (l:d.length<=1073741824):∀(xs:List aB) (i:Nat),d.drop i=xs->QS d s i=some (jy (λt=>t.Name==s) xs i):=by intro xs;induction xs with
 |nil=>intro i h;refine ac8 ?_;rw[bg h];rfl
 |cons x xs q=>intro i h;refine ac8 ?_;rw[aR h,aj,aK h,aN h l,q (i+1) (aI h),jy];cases x.Name==s<;>rfl
def fd (d:List aB) (s:bV):Int:=jy (λt=>t.Name==s) d 0
def ZT (d:List aB) (s:bV) (l:d.length<=1073741824):f111 d s=some (fd d s):=e111 (h111 d s l d 0 rfl)
abbrev kZ (d:List aB):List bV:=d.map (·.Name)
def ac2 {l:Type} (p:l->Bool):∀(xs:List l) (i:Nat),jy p xs i<0↔∀x∈xs,p x=false:=by intro xs;induction xs with
 |nil=>intro i;simp[jy]
 |cons x xs q=>intro i;rw[jy];cases h:p x with
  |true=>simp[h]
  |false=>simp[h,q (i+1)]
def Yh {B:Type} (p:B->Bool):∀(xs:List B) (i:Nat),(∃x∈xs,p x=true)->∃j,∃h:j<xs.length,jy p xs i=((i+j:Nat):Int)/\p xs[j]=true/\∀k (z:k<j),p (xs[k]'(by omega))=false:=by intro xs;induction xs with
 |nil=>intro i h;obtain⟨x,G,_⟩:=h;cases G
 |cons x xs H=>intro i h;rw[jy];cases q:p x with
  |true=>exact⟨0,by simp,by simp,by simpa using q,λk z=>by omega⟩
  |false=>
   obtain⟨j,I,e,D,F⟩:=H (i+1) (by
    obtain⟨y,w,l⟩:=h;rcases aJ.1 w with rfl|w
    .rw[q] at l;cases l
    .exact⟨y,w,l⟩)
   refine⟨j+1,by simp;omega,?_,by simpa using D,?_⟩
   .simp only[eG,e8,e];congr 1;omega
   .intro k z;cases k with
    |zero=>simpa using q
    |succ k=>simpa using F k af
def Pe {d:List aB} {s:bV}:fd d s<0↔s∉kZ d:=by
 rw[fd,ac2];constructor
 .intro h q;obtain⟨t,l,e⟩:=aG.1 q;have:=h t l;simp[e] at this
 .intro h t l;simp only[lE,ne_eq];exact λe=>h (e▸jq l)
def Jg {d:List aB} {s:bV} (h:s∈kZ d):∃j,∃l:j<d.length,fd d s=(j:Int)/\d[j].Name=s/\∀k (q:k<j),(d[k]'(by omega)).Name≠s:=by obtain⟨t,D,e⟩:=aG.1 h;obtain⟨j,l,w,z,B⟩:=Yh (λt:aB=>t.Name==s) d 0 ⟨t,D,by simpa using e⟩;exact⟨j,l,by rw[fd,w];simp,by simpa using z,λk q=>by simpa using B k q⟩
def h52 (d:List aB) (l:d.length<=1073741824):∀(xs:List aB) (i:Nat) (o:List bV),d.drop i=xs->o.length<=i->Zh d o i=some ((xs.map (·.Name)).foldl (λo s=>rP s o) o):=by intro xs;induction xs with
 |nil=>intro i o h q;refine k52_3 ?_;rw[bg h];rfl
 |cons x xs w=>intro i o h q;refine k52_3 ?_;have:=eM h;have:=nY x.Name o;rw[aR h,aj,aK h,aN h l,c98 _ _ af,ak,w (i+1) _ (aI h) af];rfl
def c52 (d:List aB) (l:d.length<=1073741824):f52 d=some (pI (kZ d)):=e52 (h52 d l d 0 [] rfl ai)
def Vq (d:List aB):Bool:=decide (d.length>256)||d.any λt=>decide (t.ew.length>256)||decide (t.bG.length>256)
def h70 (d:List aB) (z:d.length<=1073741824):∀(xs:List aB) (i:Nat),d.drop i=xs->Zp d i=some (if(xs.any λt=>decide (t.ew.length>256)||decide (t.bG.length>256))=true then 7 else 0):=by intro xs;induction xs with
 |nil=>intro i h;refine k70_4 ?_;rw[bg h];rfl
 |cons x xs B=>
  intro i h;refine k70_4 ?_;rw[aR h,aj,aK h,aK h,aN h z,B (i+1) (aI h),uj];by_cases l:x.ew.length>256
  .rw[cond_pos aH];simp[l]
  .rw[cond_neg aH];by_cases q:x.bG.length>256
   .rw[cond_pos aH];simp[q]
   .rw[cond_neg aH];have e1:decide (x.ew.length>256)=false:=by simpa using l
    have w:decide (x.bG.length>256)=false:=by simpa using q
    rw[e1,w,lz,lz]
def c70 (d:List aB):f70 d=some (if Vq d=true then 7 else 0):=by
 refine e70 ?_;by_cases h:d.length>256
 .rw[cond_pos aH];simp[Vq,h]
 .rw[cond_neg aH];have e:decide (d.length>256)=false:=by simpa using h
  rw[Vq,e,lz];exact h70 d af d 0 rfl
def pe (c:UInt8):Bool:=decide (48<=c.toNat)&&decide (c.toNat<=57)
def BO (c:UInt8):Bool:=decide (97<=c.toNat)&&decide (c.toNat<=122)
def isName (s:bV):Bool:=decide (1<=s.length)&&decide (s.length<=32)&& !pe (s.getD 0 0)&& !(s.getD 0 0).toNat==45&&s.all λc=>pe c||c.toNat==45||BO c
def c159 (c:UInt8):f159 (c.toNat:Int)=some (pe c):=by
 refine e159 ?_;by_cases h:48<=c.toNat
 .rw[cond_pos aH];simp only[pe,h,zF,gM];congr 1;rw[qv];omega
 .rw[cond_neg aH];simp[pe,h]
def c167 (c:UInt8):f167 (c.toNat:Int)=some (BO c):=by
 refine e167 ?_;by_cases h:97<=c.toNat
 .rw[cond_pos aH];simp only[BO,h,zF,gM];congr 1;rw[qv];omega
 .rw[cond_neg aH];simp[BO,h]
def c160 (c:UInt8):f160 (c.toNat:Int) false=some (pe c||c.toNat==45||BO c):=by refine e160 ?_;rw[c159,ak,c167,ak];cases pe c with
 |true=>rfl
 |false=>
  by_cases h:c.toNat=45
  .rw[au,cond_pos aH];simp[h]
  .rw[au,cond_neg aH];simp[h]
def h140 (s:bV) (l:s.length<=1073741824):∀(xs:bV) (i:Nat),s.drop i=xs->L8 s false i=some (xs.all λc=>pe c||c.toNat==45||BO c):=by intro xs;induction xs with
 |nil=>intro i h;refine Pz ?_;rw[bg h];rfl
 |cons x xs q=>intro i h;refine Pz ?_;rw[aR h,aj,aK h,c160,ak,aN h l,q (i+1) (aI h),jG];cases(pe x||x.toNat==45||BO x)<;>rfl
def Ki (s:bV):f110 s=some (isName s):=by
 refine e110 ?_
 have:f140 s false=some (isName s):=by
  refine e140 ?_;by_cases l:1<=s.length
  .rw[cond_neg aH];by_cases q:s.length<=32
   .rw[cond_neg aH,show(0:Int)=((0:Nat):Int) from rfl,cR af,c159,ak,cR af,h140 s af s 0 rfl];have z:s.getD 0 0=s[0]:=by rw[bD,aM af];rfl
    unfold isName;rw[z];cases pe s[0] with
    |true=>simp[l,q]
    |false=>
     by_cases w:s[0].toNat=45
     .rw[au,cond_pos aH];simp[w]
     .rw[au,cond_neg aH];simp[l,q,w]
   .rw[cond_pos aH];simp[isName,q]
  .rw[cond_pos aH];simp[isName,l]
 rw[this];rfl
def xK:List bV->List aB->Int
 |_,[]=>0
 |l,t::q=>if isName t.Name=false then 1 else if t.Name∈l then 4 else xK (l++[t.Name]) q
def fd_lt {d:List aB} {i:Nat} {t:aB} {H:List aB} (h:d.drop i=t::H):fd d t.Name<(i:Int)↔t.Name∈(d.take i).map (·.Name):=by
 have L:=eM h;have l:d[i]? =some t:=bU h;obtain⟨j,N,e,B,D⟩:=Jg (d:=d) (s:=t.Name) (jq (aP l));rw[e];constructor
 .intro F;have q:j<i:=by omega
  refine aG.2 ⟨d[j],?_,B⟩;rw[qw];exact⟨j,by omega,rfl⟩
 .intro G;obtain⟨u,w,z⟩:=aG.1 G;rw[qw] at w;obtain⟨k,O,rfl⟩:=w;apply eH;intro I;exact D k af z
def h71 (d:List aB) (q:d.length<=1073741824):∀(xs:List aB) (i:Nat),d.drop i=xs->Zq d i=some (xK ((d.take i).map (·.Name)) xs):=by intro xs;induction xs with
 |nil=>intro i h;refine k71_2 ?_;rw[bg h];rfl
 |cons x xs B=>
  intro i h;refine k71_2 ?_;have z:d.take (i+1)=d.take i++[x]:=by rw[dy,bU h];rfl
  rw[aR h,aj,aK h,Ki,ak,aK h,ZT d _ q,ak,aN h q,B (i+1) (aI h),xK,z];cases D:isName x.Name with
  |false=>rfl
  |true=>
   rw[dr,au];by_cases l:x.Name∈(d.take i).map (·.Name)
   .rw[cond_pos (by simpa using(fd_lt h).2 l)];simp only[zG,e8,l,gj]
   .rw[cond_neg (by simpa using λw=>l ((fd_lt h).1 w))];simp only[zG,e8,l,cE,bM,fN]
def c71 (d:List aB) (l:d.length<=1073741824):f71 d=some (xK [] d):=e71 (h71 d l d 0 rfl)
def spK (q:List bV):List bV->List bV->Int
 |_,[]=>0
 |l,s::ss=>if s∉q then 5 else if s∈l then 4 else spK q (l++[s]) ss
def y9 (l:List bV):List aB->Int
 |[]=>0
 |t::q=>if spK l [] t.ew=0 then y9 l q else spK l [] t.ew
def h72b (d:List aB) (F:d.length<=1073741824) (i:Nat) (L:i<d.length) (l:List bV) (z:l.length<=1073741824) {r:Int} (H:UT d (i+1:Nat)=some r):∀(xs:List bV) (k:Nat),l.drop k=xs->
  Zr d i l k=some (if spK (kZ d) (l.take k) xs=0 then r else spK (kZ d) (l.take k) xs):=by
 intro xs;induction xs with
 |nil=>intro k h;refine k72_6 ?_;rw[bg h,au,bJ af,H];rfl
 |cons x xs I=>
  intro k h;refine k72_6 ?_;have G:=eM h;have D:l.take (k+1)=l.take k++[x]:=by rw[dy,bU h];rfl
  rw[aR h,aj,aK h,ZT d _ F,ak,spK];by_cases q:x∈kZ d
  .rw[cond_neg (by simpa using λB=>(Pe.1 B) q),EW af,aK h,c37 _ _ aH,ak,aN h z,I (k+1) (aI h),D];have e:List.drop 0 (List.take (Int.toNat (k:Int)) l)=l.take k:=ai;rw[e];by_cases w:x∈l.take k
   .rw[cond_pos (by simpa using w)];simp only[q,r6,e8,w,gj];rfl
   .rw[cond_neg (by simpa using w)];simp only[q,r6,e8,w]
  .rw[cond_pos (by simpa using Pe.2 q)];simp only[q,not_false_eq_true,gj];rfl
def h72 (d:List aB) (l:d.length<=1073741824) (q:∀t∈d,t.ew.length<=1073741824):∀(xs:List aB) (i:Nat),d.drop i=xs->UT d i=some (y9 (kZ d) xs):=by intro xs;induction xs with
 |nil=>intro i h;refine k72_2 ?_;rw[bg h];rfl
 |cons x xs w=>intro i h;refine k72_2 ?_;rw[aR h,aj,aK h];exact h72b d l i (eM h) _ (q x (aP (bU h))) (w (i+1) (aI h)) _ 0 rfl
def c72 (d:List aB) (l:d.length<=1073741824) (q:∀t∈d,t.ew.length<=1073741824):f72 d=some (y9 (kZ d) d):=e72 (h72 d l q d 0 rfl)
def Lc:∀(d:List aB) (l:List bV),xK l d=0↔(∀t∈d,isName t.Name=true)/\(kZ d).Nodup/\∀t∈d,t.Name∉l:=by intro d;induction d with
 |nil=>intro l;simp[xK]
 |cons t d I=>intro l;unfold xK;cases F:isName t.Name with
  |false=>simp[F]
  |true=>
   by_cases D:t.Name∈l
   .simp[D]
   .simp only[zG,e8,D,I,bf,bZ,bM,gF,aJ,not_or];constructor
    .rintro⟨z,B,w⟩;refine⟨?_,⟨?_,B⟩,?_⟩
     .rintro u (rfl|q)
      .exact F
      .exact z u q
     .intro H;obtain⟨u,q,e⟩:=aG.1 H;exact(w u q).2.1 e
     .rintro u (rfl|q)
      .exact D
      .exact(w u q).1
    .rintro⟨z,⟨B,w⟩,G⟩;refine⟨λu q=>z u (.inr q),w,λu q=>⟨G u (.inr q),λe=>B (by rw[<-e];exact jq q),ai⟩⟩
def afb (H:List bV):∀(l q:List bV),spK H q l=0↔(∀s∈l,s∈H)/\l.Nodup/\∀s∈l,s∉q:=by intro l;induction l with
 |nil=>intro q;simp[spK]
 |cons s l N=>
  intro q;unfold spK;by_cases B:s∈H
  .by_cases F:s∈q
   .simp[B,F]
   .simp only[B,r6,e8,F,N,bf,bZ,gF,aJ,not_or];constructor
    .rintro⟨D,G,z⟩;refine⟨?_,⟨λL=>(z s L).2.1 rfl,G⟩,?_⟩
     .rintro u (rfl|w)
      .exact B
      .exact D u w
     .rintro u (rfl|w)
      .exact F
      .exact(z u w).1
    .rintro⟨D,⟨G,z⟩,I⟩;exact⟨λu w=>D u (.inr w),z,λu w=>⟨I u (.inr w),λe=>G (by rw[<-e];exact w),ai⟩⟩
  .simp[B]
def L1 (q:List bV):∀(d:List aB),y9 q d=0↔∀t∈d,(∀s∈t.ew,s∈q)/\t.ew.Nodup:=by intro d;induction d with
 |nil=>simp[y9]
 |cons t d B=>
  unfold y9;have:=afb q t.ew [];split
  .rename_i h;rw[B];have w:=this.1 h;simp only[aJ,forall_eq_or_imp];exact⟨λl=>⟨⟨w.1,w.2.1⟩,l⟩,λl=>l.2⟩
  .rename_i h;constructor
   .intro z;exact absurd z h
   .intro l;exact absurd (this.2 ⟨(l t ai).1,(l t ai).2,ai⟩) h
end Go.Proofs.YtacapiamkgkkjaaGreatDoor.cl
namespace Go.Proofs.YtacapiamkgkkjaaGreatDoor.cl
open Go Go.AM
def h112 (t:aB) (o:List bV) (l:o.length<=1073741824) (q:t.ew.length<=1073741824):∀(xs:List bV) (i:Nat),t.ew.drop i=xs->QT o i t=some (xs.all λs=>decide (s∈o)):=by intro xs;induction xs with
 |nil=>intro i h;refine ac9 ?_;rw[bg h];rfl
 |cons x xs z=>intro i h;refine ac9 ?_;rw[aR h,aj,aK h,c37 _ _ l,ak,aN h q,z (i+1) (aI h),jG];by_cases w:x∈o<;>simp[w]
def c112 (t:aB) (o:List bV) (l:o.length<=1073741824) (q:t.ew.length<=1073741824):f112 t o=some (t.ew.all λs=>decide (s∈o)):=e112 (h112 t o l q _ 0 rfl)
structure Sz (d:List aB):Prop where
 len:d.length<=1048576
 sup:∀t∈d,t.ew.length<=1048576
structure Vh (d:List aB) (o:List bV):Prop where
 nd:o.Nodup
 sub:∀x∈o,x∈kZ d
 pre:∀i x,o[i]? =some x->∃t∈d,t.Name=x/\∀s∈t.ew,s∈o.take i
def Rdy (d:List aB) (o:List bV) (x:bV):Prop:=∃t∈d,t.Name=x/\x∉o/\∀s∈t.ew,s∈o
def Vh.len {d:List aB} {o:List bV} (h:Vh d o):o.length<=d.length:=by have:=jI h.nd h.sub;simpa using this
def h73b {d:List aB} (z:Sz d) {o:List bV} (ho:o.length<=d.length):∀(xs:List aB) (i:Nat) (more:Bool) (next:bV),d.drop i=xs->(more=true->Rdy d o next)->
  ∃(l:Bool) (q:bV),(l=true->Rdy d o q)/\(l=false->∀t∈xs,t.Name∉o->∃s∈t.ew,s∉o)/\(more=true->l=true)/\
   ∀r,Mz d l (if l=true then o++[q] else o)=some r->Gc d more next i o=some r:=by
 have hl:=z.len;intro xs;induction xs with
 |nil=>
  intro i more next h N
  refine⟨more,next,N,λ_ t B=>(by cases B),λh=>h,λr w=> ?_⟩;refine YK ?_;rw[bg h,au];cases more with
  |true=>rw[aj,cF _ af ai af];rw[aC rfl] at w;exact w
  |false=>rw[au];rw[aA ai] at w;exact w
 |cons x xs ih=>
  intro i more next h N
  have hx:x∈d:=aP (bU h);by_cases L:x.Name∈o
  .obtain⟨Q,S,H,a2,F,I⟩:=ih (i+1) more next (aI h) N
   refine⟨Q,S,H,λe t B G=> ?_,F,λr w=> ?_⟩
   .rcases aJ.1 B with rfl|B
    .exact absurd L G
    .exact a2 e t B G
   .refine YK ?_;rw[aR h,aj,aK h,c37 _ _ af,ak,cond_pos (by simpa using L),aN h af];exact I r w
  .by_cases h2:∀s∈x.ew,s∈o
   .have O:Rdy d o x.Name:=⟨x,hx,rfl,L,h2⟩
    have D:(x.ew.all λs=>decide (s∈o))=true:=by rw[cv];intro s P;simpa using h2 s P
    have go:∀U,Rdy d o U->(more=false->U=x.Name)->(more=true->U=if Op.bytesLess x.Name next=true then x.Name else next)->∃(l:Bool) (q:bV),(l=true->Rdy d o q)/\(l=false->∀t∈x::xs,t.Name∉o->∃s∈t.ew,s∉o)/\(more=true->l=true)/\
      ∀r,Mz d l (if l=true then o++[q] else o)=some r->Gc d more next i o=some r:=by
     intro U G e1 e2;obtain⟨Q,S,H,a2,F,I⟩:=ih (i+1) true U (aI h) (λ_=>G);refine⟨Q,S,H,λe=>(by rw[F rfl] at e;cases e),λ_=>F rfl,λr w=> ?_⟩;have w:=I r w;refine YK ?_;rw[aR h,aj,aK h,c37 _ _ af,ak,cond_neg (by simpa using L),aK h,c112 _ _ af (by have:=z.sup x hx;omega),ak,D,dr,au];cases more with
     |false=>rw[fE,aj,aK h,aN h af];rw[e1 rfl] at w;exact w
     |true=>rw[dr,au,aK h,aK h,aN h af];have:=e2 rfl;cases hb:Op.bytesLess x.Name next with
      |true=>rw[hb,aC rfl] at this;rw[this] at w;rw[aj];exact w
      |false=>rw[hb] at this;simp only[eG,e8] at this;rw[this] at w;rw[au];exact w
    cases hm:more with
    |false=>rw[hm] at go;exact go x.Name O (λ_=>rfl) (λe=>by cases e)
    |true=>
     rw[hm] at go;refine go _ ?_ (λe=>by cases e) (λ_=>rfl);split
     .exact O
     .exact N hm
   .obtain⟨Q,S,H,a2,F,I⟩:=ih (i+1) more next (aI h) N
    have D:(x.ew.all λs=>decide (s∈o))=false:=by apply eH;intro hc;rw[Bool.not_eq_false,cv] at hc;exact h2 λs P=>by simpa using hc s P
    refine⟨Q,S,H,λe t B G=> ?_,F,λr w=> ?_⟩
    .rcases aJ.1 B with rfl|B
     .apply eH;intro hc;exact h2 λs P=>eH λhns=>hc ⟨s,P,hns⟩
     .exact a2 e t B G
    .refine YK ?_;rw[aR h,aj,aK h,c37 _ _ af,ak,cond_neg (by simpa using L),aK h,c112 _ _ af (by have:=z.sup x hx;omega),ak,D,fE,aj,aN h af];exact I r w
def h73 {d:List aB} (z:Sz d):∀(n:Nat) (o:List bV),d.length-o.length=n->Vh d o->
  ∃out,Vh d out/\(∀t∈d,t.Name∉out->∃s∈t.ew,s∉out)/\Mz d true o=some out:=by
 intro n;induction n with
 |zero=>intro o hn w;have q:=w.len;obtain⟨S,I,L,N,U,F⟩:=h73b z q d 0 false [] rfl (λe=>by cases e);cases S with
  |false=>refine⟨o,w,N rfl,?_⟩;refine TM ?_;rw[aj];refine F _ ?_;refine TM ?_;simp
  |true=>
   obtain⟨t,H,e,B,G⟩:=L rfl
   have:(o++[I]).length<=(kZ d).length:=jI (by
    rw[gW]
    exact⟨w.nd,by simp,λa O b D=>by simp only[bZ] at D;subst D;exact λe=>B (e▸O)⟩) (λx l=>by
     rcases bf.1 l with l|l
     .exact w.sub x l
     .simp only[bZ] at l;subst l;rw[<-e];exact jq H)
   simp at this;omega
 |succ n ih=>intro o hn w;have q:=w.len;obtain⟨S,I,L,N,U,F⟩:=h73b z q d 0 false [] rfl (λe=>by cases e);cases S with
  |false=>refine⟨o,w,N rfl,?_⟩;refine TM ?_;rw[aj];refine F _ ?_;refine TM ?_;simp
  |true=>
   obtain⟨t,H,e,B,G⟩:=L rfl;have hT:Vh d (o++[I]):=by
    refine⟨?_,?_,?_⟩
    .rw[gW];exact⟨w.nd,by simp,λa O b D=>by simp only[bZ] at D;subst D;exact λe=>B (e▸O)⟩
    .intro x l;rcases bf.1 l with l|l
     .exact w.sub x l
     .simp only[bZ] at l;subst l;rw[<-e];exact jq H
    .intro i x l;by_cases hi:i<o.length
     .rw[fM hi] at l;obtain⟨u,hu,e1,h1⟩:=w.pre i x l;exact⟨u,hu,e1,λs G=>by rw[vp af];exact h1 s G⟩
     .have P:i=o.length:=by
       apply eH;intro hc;rw[ig aH] at l;cases l
      subst P;rw[e7 af,ot] at l;simp only[EC,aW] at l;subst l;exact⟨t,H,e,λs Q=>by rw[mK];exact G s Q;rfl⟩
   obtain⟨out,b1,b2,b3⟩:=ih (o++[I]) aH hT;refine⟨out,b1,b2,?_⟩;refine TM ?_;rw[aj];exact F _ b3
def c73 {d:List aB} (z:Sz d):∃out,Vh d out/\(∀t∈d,t.Name∉out->∃s∈t.ew,s∉out)/\f73 d=some out:=by obtain⟨out,q,w,B⟩:=h73 z _ [] rfl ⟨ai,λx l=>(by cases l),λi x l=>(by simp at l)⟩;exact⟨out,q,w,e73 B⟩
def DL (d:List aB):Prop:=∃r:bV->Nat,∀t∈d,∀s∈t.ew,r s<r t.Name
def LH {d:List aB} {o:List bV} (O:(kZ d).Nodup) (F:Vh d o) (L:∀t∈d,t.Name∈o):DL d:=by
 refine⟨λx=>o.idxOf x,λt G s P=> ?_⟩;have N:=L t G;have D:o.idxOf t.Name<o.length:=List.idxOf_lt_length_iff.2 N;have l:o[o.idxOf t.Name]? =some t.Name:=by rw[aM D,List.getElem_idxOf D]
 obtain⟨u,Q,e,q⟩:=F.pre _ _ l;have B:u=t:=by
  obtain⟨i,w,rfl⟩:=iY.1 Q;obtain⟨j,z,rfl⟩:=iY.1 G
  have:(kZ d)[i]'(by simpa using w)=(kZ d)[j]'(by simpa using z):=by simpa using e
  have:=(sC O).1 this;subst this;rfl
 subst B;have:=q s P;rw[qw] at this;obtain⟨k,S,rfl⟩:=this;show o.idxOf o[k]<_;have H:o.idxOf o[k]=k:=F.nd.idxOf_getElem k af;have I:k<o.idxOf u.Name:=af;rw[H];exact I
def KI {d:List aB} {o:List bV} (l:∀t∈d,∀s∈t.ew,s∈kZ d) (q:∀t∈d,t.Name∉o->∃s∈t.ew,s∉o) (z:DL d):∀t∈d,t.Name∈o:=by
 obtain⟨r,z⟩:=z;have key:∀(n:Nat) (t:aB),t∈d->r t.Name=n->t.Name∈o:=by intro n;induction n using Nat.strongRecOn with
  |_ n H=>intro t w e;apply eH;intro F;obtain⟨s,D,B⟩:=q t w F;obtain⟨u,G,rfl⟩:=aG.1 (l t w s D);have:=z t w _ D;exact B (H (r u.Name) af u G rfl)
 exact λt w=>key _ t w rfl
def Gf (d:List aB):Nat:=(d.filter λt=>t.ew.length==0).length
open Classical in
noncomputable def Jd (d:List aB):Int:=
 if Vq d=true then 7 else if xK [] d≠0 then xK [] d else if y9 (kZ d) d≠0 then y9 (kZ d) d else if Gf d≠1 then 1 else if DL d then 0 else 6
def h32 {d:List aB} (z:Sz d) (P:xK [] d=0) (Q:y9 (kZ d) d=0):∀(xs:List aB) (i n:Nat),d.drop i=xs->n<=i->
  Ma d n i=some (open Classical in if n+Gf xs≠1 then 1 else if DL d then 0 else 6):=by
 have hl:=z.len;intro xs;induction xs with
 |nil=>
  intro i n h U;refine adm ?_;obtain⟨out,G,L,N⟩:=c73 z;have B:=((Lc d []).1 P).2.1;have w:∀t∈d,∀s∈t.ew,s∈kZ d:=λt D=>((L1 _ d).1 Q t D).1
  rw[bg h,au];have O:n+Gf []=n:=rfl;rw[O];by_cases H:n=1
  .rw[cond_neg aH,N,ak,aA af];by_cases F:DL d
   .have l:=KI w L F
    have:(kZ d).length<=out.length:=jI B λx q=>by obtain⟨t,D,rfl⟩:=aG.1 q;exact l t D
    simp only[bI] at this;rw[cond_neg aH,aC F]
   .have:out.length<d.length:=by
     apply eH;intro hc;apply F;refine LH B G λt D=> ?_
     exact WR G.nd G.sub aH _ (jq D)
    rw[cond_pos aH,aA F]
  .rw[cond_pos aH,aC H]
 |cons x xs I=>
  intro i n h U;refine adm ?_;have S:=eM h;rw[aR h,aj,aK h,aN h af,bJ af];by_cases q:x.ew.length=0
  .rw[cond_pos (by simpa using q),I (i+1) (n+1) (aI h) af]
   have:Gf (x::xs)=Gf xs+1:=by simp[Gf,oo,q]
   rw[this,show n+1+Gf xs=n+(Gf xs+1) by omega]
  .rw[cond_neg (by simpa using q),I (i+1) n (aI h) af]
   have:Gf (x::xs)=Gf xs:=by
    have:(x.ew.length==0)=false:=by simpa using q
    simp[Gf,oo,this]
   rw[this]
def c32 {d:List aB} (z:Sz d):f32 d=some (Jd d):=by
 have D:=z.len;refine e32 ?_;rw[c70,ak,c71 d af,ak,c72 d af (λt B=>by have:=z.sup t B;omega),ak];unfold Jd;by_cases q:Vq d=true
 .rw[aC q,aC q];rfl
 .rw[aA q,aA q];by_cases l:xK [] d=0
  .by_cases w:y9 (kZ d) d=0
   .have:=h32 z l w d 0 0 rfl af;rw[l,w,aA ai,aA ai];simpa using this
   .rw[aC w,l,aA ai];rw[cond_neg ai,cond_neg ai,cond_pos (by simpa using w)]
  .rw[aC l,cond_neg ai,cond_pos (by simpa using l)]
structure Acc (d:List aB):Prop where
 nd:(kZ d).Nodup
 name:∀t∈d,isName t.Name=true
 dec:∀t∈d,∀s∈t.ew,s∈kZ d
 top:Gf d=1
 rk:DL d
def JZ {d:List aB} (h:Jd d=0):Acc d:=by
 unfold Jd at h;split at h
 .cases h
 split at h
 .rename_i l;exact absurd h l
 split at h
 .rename_i l;exact absurd h l
 split at h
 .cases h
 split at h
 .rename_i I l D F G;have q:xK [] d=0:=eH l;have w:y9 (kZ d) d=0:=eH D;obtain⟨z,B,_⟩:=(Lc d []).1 q;exact⟨B,z,λt H=>((L1 _ d).1 w t H).1,eH F,G⟩
 .cases h
end Go.Proofs.YtacapiamkgkkjaaGreatDoor.cl
namespace Go.Proofs.YtacapiamkgkkjaaGreatDoor.cl
open Go Go.AM
def dn (d:List aB) (x:bV):List bV:=(d.filter λt=>decide (x∈t.ew)).map (·.Name)
def up (d:List aB) (x:bV):List bV:=match d.find? (λt=>t.Name==x) with
 |some t=>t.ew
 |none=>[]
theorem K7 {d:List aB} {x y:bV}:y∈dn d x↔∃t∈d,t.Name=y/\x∈t.ew:=by simp[dn];grind
def VH {d:List aB} {x y:bV} (h:y∈dn d x):y∈kZ d:=by grind[K7]
def nd_eq {d:List aB} (w:(kZ d).Nodup) {t u:aB} (z:t∈d) (B:u∈d) (e:t.Name=u.Name):t=u:=by
 obtain⟨i,l,rfl⟩:=iY.1 z;obtain⟨j,q,rfl⟩:=iY.1 B
 have:(kZ d)[i]'(by simp_all)=(kZ d)[j]'(by simp_all):=by simpa using e
 have:=(sC w).1 this;simp_all
def aft {d:List aB} (q:(kZ d).Nodup) {t:aB} (w:t∈d):up d t.Name=t.ew:=by unfold up;cases e:d.find? _ with
 |none=>grind
 |some u=>have z:=qt e;have l:=oq e;rw[nd_eq q l w (by simp_all)]
def aer {d:List aB} (l:(kZ d).Nodup) {x y:bV} (z:x∈kZ d):y∈up d x↔x∈dn d y:=by
 obtain⟨t,q,rfl⟩:=aG.1 z;rw[aft l q,K7];constructor
 .grind
 .rintro⟨u,w,e,h⟩;rw[nd_eq l w q e] at h;exact h
abbrev Le (d:List aB) (x y:bV):Prop:=tH (dn d) x y
def Ux {d:List aB} (A:Acc d) {x y:bV} (D:x∈kZ d) (h:tH (up d) x y):y∈kZ d/\Le d y x:=by induction h with
 |refl=>exact⟨D, .refl⟩
 | @step y z G l F=>
  obtain⟨w,B⟩:=F;refine⟨?_,?_⟩
  .obtain⟨t,q,e⟩:=aG.1 w;subst e;rw[aft A.nd q] at l;exact A.dec t q _ l
  .exact tH.trans (.step .refl ((aer A.nd w).1 l)) B
def tH.head {next:bV->List bV} {x y z:bV} (l:y∈next x) (q:tH next y z):tH next x z:=tH.trans (.step .refl l) q
def afu {d:List aB} (A:Acc d) {x y:bV} (h:Le d y x):tH (up d) x y:=by induction h with
 |refl=>exact .refl
 | @step u v w l q=>exact tH.head ((aer A.nd (VH l)).2 l) q
def Qy {d:List aB} (A:Acc d) {x y:bV} (l:x∈kZ d):tH (up d) x y↔Le d y x:=⟨λh=>(Ux A l h).2,afu A⟩
def PV {d:List aB} {r:bV->Nat} (q:∀t∈d,∀s∈t.ew,r s<r t.Name) {x y:bV} (h:Le d x y):x=y\/r x<r y:=by induction h with
 |refl=>simp
 |step _ l B=>obtain⟨t,z,rfl,w⟩:=K7.1 l;grind
theorem le_antisymm {d:List aB} (A:Acc d) {x y:bV} (w:Le d x y) (z:Le d y x):x=y:=by
 obtain⟨r,l⟩:=A.rk;rcases PV l w with h|h
 .exact h
 .rcases PV l z with q|q
  .simp_all
  omega
def root {d:List aB} (A:Acc d):∃t∈kZ d,∀y∈kZ d,Le d t y:=by
 have w:=A.top;obtain⟨t,F⟩:=ED.1 w;have B:t∈d.filter (λt=>t.ew.length==0):=by rw[F];simp
 refine⟨_,jq (dw.1 B).1,?_⟩;obtain⟨r,G⟩:=A.rk;have key:∀(n) (u),u∈d->r u.Name=n->Le d t.Name u.Name:=by intro n;induction n using Nat.strongRecOn with
  |_ n I=>intro u z e;cases D:u.ew with
   |nil=>
    have:u∈d.filter (λt=>t.ew.length==0):=dw.2 ⟨z,by simp[D]⟩
    rw[F,bZ] at this;subst this;exact .refl
   |cons s l=>
    have q:s∈u.ew:=by rw[D];simp
    obtain⟨v,H,rfl⟩:=aG.1 (A.dec u z s q);have:=G u z _ q;exact .step (I _ af v H rfl) (K7.2 ⟨u,z,rfl,q⟩)
 simp_all
def h99b {d:List aB} (z:Sz d) {i:Nat} {x:bV}:∀(xs:List aB) (k:Nat) (o:List bV),d.drop k=xs->o[i]? =some x->o.length+xs.length<=2097152->∀r,
  UU d (i+1:Nat) (nh o ((xs.filter λt=>decide (x∈t.ew)).map (·.Name)))=some r->Ox d i k o=some r:=by
 have L:=z.len;intro xs;induction xs with
 |nil=>intro k o h w l r q;refine k99_8 ?_;have D:=(bu.1 w).1;rw[bg h,au,bJ af];exact q
 |cons t xs B=>
  intro k o h w l r q;refine k99_8 ?_;have D:=(bu.1 w).1;have G:t∈d:=aP (bU h);have F:=z.sup t G;simp only[bA] at l;rw[aR h,aj,aK h,BF D,aS,iE w,c37 _ _ af,ak,aN h af,aK h,c37 _ _ af,ak,aK h];rw[oo] at q;by_cases H:x∈t.ew
  .rw[cond_pos (by simp_all)];rw[aC (by simp_all),bM] at q;by_cases I:t.Name∈o
   .rw[cond_neg (by simp_all)];refine B (k+1) o (aI h) w af r ?_;simp_all[nh,List.filter,decide]
   .rw[cond_pos (by simp_all),cF _ af ai af];refine B _ _ (aI h) (by grind) aH r ?_;simp_all[nh]
  .rw[cond_neg (by simp_all)];rw[aA (by simp_all)] at q;exact B _ o (aI h) w af r q
def h99c (o:List bV) (q:o.length<=1073741824):∀(xs:List bV) (i:Nat) (out:List bV),o.drop i=xs->out.length<=i->Hu out i o=some (xs.foldl (λo s=>rP s o) out):=by intro xs;induction xs with
 |nil=>grind[ael,bg]
 |cons x xs w=>intro i out h z;refine ael ?_;have l:=eM h;have:=nY x out;rw[aR h,jQ h,jP h,c98 _ _ af,ak,aN h q,w _ _ (aI h) af];rfl
def c99 {d:List aB} (z:Sz d) {x:bV} (F:x∈kZ d):∃l,f99 d x=some l/\SS l/\(∀y,y∈l↔Le d x y)/\l.length<=d.length:=by
 have P:=z.len;obtain⟨o,L,G,H,N⟩:=search F (λx _ y q=>VH q) (outer:=λi o=>UU d i o) (fin:=λo=>Hu [] 0 o)
  (λi o B I r D=>by simp_all[k99_5,cond_neg])
  (λi o y B w q _ r D=>by
   have I:=(bu.1 q).1;refine k99_5 ?_;rw[cond_pos aH];simp at B
   exact h99b z d 0 o rfl q af r D)
 simp at H;have Q:Hu _ 0 o=some (pI o):=h99c o af o 0 _ rfl ai;refine⟨_,?_,mX o,λy=>by rw[gH,G],by have:=qM o;omega⟩;refine e99 ?_;obtain⟨j,O,e,_⟩:=Jg F;rw[ZT d _ af,ak,e,cond_neg ai];simp_all
def h138b {d:List aB} (z:Sz d) {i:Nat} {l:List bV} (F:l.length<=1048576):∀(xs:List bV) (k:Nat) (o:List bV),l.drop k=xs->i<o.length->o.length+xs.length<=2097152->∀r,
  L5 d (i+1:Nat) (nh o xs)=some r->L6 d i l k o=some r:=by
 intro xs;induction xs with
 |nil=>intro k o h w q r B;refine adh ?_;rw[bg h,au,bJ af];exact B
 |cons s xs D=>
  intro k o h w q r B;refine adh ?_;simp at q;rw[aR h,aj,aK h,c37 _ _ af,ak,aN h af,aK h];by_cases G:s∈o
  .rw[cond_neg (by simp_all)];refine D _ o (aI h) w af r ?_;simp_all[nh]
  .rw[cond_pos (by simp_all),cF _ af ai af];refine D _ _ (aI h) aH aH r ?_;simp_all[nh]
def h138c (o:List bV) (q:o.length<=1073741824):∀(xs:List bV) (i:Nat) (out:List bV),o.drop i=xs->out.length<=i->CM out i o=some (xs.foldl (λo s=>rP s o) out):=by intro xs;induction xs with
 |nil=>grind[Yk,bg]
 |cons x xs w=>intro i out h z;refine Yk ?_;have l:=eM h;have:=nY x out;rw[aR h,jQ h,jP h,c98 _ _ af,ak,aN h q,w _ _ (aI h) af];rfl
def c138 {d:List aB} (z:Sz d) (A:Acc d) {x:bV} (q:x∈kZ d):∃l,f138 d x=some l/\SS l/\(∀y,y∈l↔Le d y x)/\l.length<=d.length:=by
 have hl:=z.len;obtain⟨o,S,L,N,U⟩:=search q (λx q y w=>(Ux A q (.step .refl w)).1) (outer:=λi o=>L5 d i o) (fin:=λo=>CM [] 0 o)
  (λi o H B r P=>by simp_all[adg,cond_neg])
  (λi o y H G w D r P=>by
   have B:=(bu.1 w).1;refine adg ?_;obtain⟨j,F,e,O,_⟩:=Jg D;simp at H;rw[cond_pos aH,BF B,aS,iE w,ZT d _ af,ak,e,cR _];have I:=z.sup _ (cG F);refine h138b z af d[j].ew 0 o rfl B af r ?_;have Q:up d y=d[j].ew:=by rw[<-O];exact aft A.nd (cG _)
   simp_all)
 simp at N;have hs:CM _ 0 o=some (pI o):=h138c o af o 0 _ rfl ai;refine⟨_,?_,mX o,λy=>by rw[gH,L,Qy A q],by have:=qM o;omega⟩;refine e138 ?_;obtain⟨j,F,e,_⟩:=Jg q;rw[ZT d _ af,ak,e,cond_neg ai];simp_all
def h137 {d:List aB} (z:Sz d) (l:List bV) (F:l.length<=1048576):∀(xs:List bV) (i:Nat) (out:List bV),l.drop i=xs->out.length<=i->L4 d l out i=some ((xs.filter λs=>decide (s∈kZ d)).foldl (λo s=>rP s o) out):=by have L:=z.len;intro xs;induction xs with
 |nil=>grind[adf,bg]
 |cons x xs B=>
  intro i out h I;refine adf ?_;have G:=eM h;have:=nY x out;rw[aR h,aj,aK h,ZT d _ af,ak,aN h af,aK h,oo];by_cases q:x∈kZ d
  .have D:fd d x>=0:=by
    apply eH;intro H;exact Pe.1 af q
   rw[cond_pos (by simp_all),c98 _ _ af,ak,B _ _ (aI h) af,aC (by simp_all)];rfl
  .have w:=Pe.2 q;rw[cond_neg (by simp_all),B _ _ (aI h) af,aA (by simp_all)]
def c137 {d:List aB} (z:Sz d) (l:List bV) (q:l.length<=1048576):f137 d l=some (pI (l.filter λs=>decide (s∈kZ d))):=e137 (h137 z l q l 0 _ rfl ai)
open Classical in
noncomputable def sP (d:List aB) (all:List bV) (x:bV):Bool:=all.all λy=>decide (y=x)|| !decide (Le d y x)
def h104b {d:List aB} (z:Sz d) {all up:List bV} {i:Nat} {x:bV} (w:all[i]? =some x) (F:all.Nodup) (L:all.length<=1048576) (S:up.length<=1048576) (Q:∀y,y∈up↔Le d y x) {o:List bV} (U:o.length<=1048576) {r:List bV}:
  ∀(xs:List bV) (k:Nat) (l:Bool),all.drop k=xs->
  He d all (i+1:Nat) (if(l&&sP d xs x)=true then o++[x] else o)=some r->Hf d all i up l k o=some r:=by
 intro xs;have B:=(bu.1 w).1;induction xs with
 |nil=>
  intro k l h q;refine ac6 ?_;rw[bg h,au,bJ af];have e:(l&&sP d [] x)=l:=by simp[sP]
  rw[e] at q;cases l with
  |true=>rw[aj,jd w,cF _ af ai af];rw[aC rfl] at q;exact q
  |false=>rw[au];rw[aA ai] at q;exact q
 |cons y xs H=>
  intro k l h q;refine ac6 ?_;rw[aR h,aj,aN h af,aK h,c37 _ _ af,ak];have e:sP d (y::xs) x=((decide (y=x)|| !(open Classical in decide (Le d y x)))&&sP d xs x):=by simp[sP]
  rw[e] at q;cases l with
  |false=>rw[au];refine H (k+1) false (aI h) ?_;rw[sr] at q⊢;exact q
  |true=>
   rw[aj];by_cases N:k=i
   .subst N;rw[bU h] at w;obtain rfl:y=x:=fc w;rw[cond_pos ai];refine H (k+1) true (aI h) ?_;have e1:(decide (y=y)|| !(open Classical in decide (Le d y y)))=true:=ai;rw[e1,gM] at q;exact q
   .have G:y≠x:=by
     intro e;subst e;have I:=bU h;have D:=eM h;rw[aM D] at I;rw[aM B] at w;have:=(sC F).1 ((fc I).trans (fc w).symm);exact N this
    rw[cond_neg aH];refine H (k+1) _ (aI h) ?_;have O:decide (y=x)=false:=by simpa using G
    have P:decide (y∈up)=(open Classical in decide (Le d y x)):=by rw[qv];exact Q y
    rw[O,lz,gM] at q;rw[P];exact q
def h104 {d:List aB} (z:Sz d) (A:Acc d) {all:List bV} (q:all.Nodup) (l:all.length<=1048576) (F:∀x∈all,x∈kZ d):∀(xs:List bV) (i:Nat) (o:List bV),all.drop i=xs->o.length<=i->
  He d all i o=some (o++xs.filter (sP d all)):=by
 have N:=z.len;intro xs;induction xs with
 |nil=>intro i o h G;refine ac5 ?_;rw[bg h];simp
 |cons x xs w=>intro i o h G;refine ac5 ?_;have D:=eM h;obtain⟨u,H,_,B,I⟩:=c138 z A (F x (aP (bU h)));rw[aR h,aj,aK h,H,ak];refine h104b z (bU h) q l af B af all 0 true rfl ?_;rw[gM,oo];cases L:sP d all x with
  |true=>rw[aC rfl,aC rfl,w (i+1) (o++[x]) (aI h) aH];simp
  |false=>rw[aA ai,aA ai,w (i+1) o (aI h) af]
noncomputable def wL (d:List aB) (l:List bV):List bV:=(pI (l.filter λs=>decide (s∈kZ d))).filter (sP d (pI (l.filter λs=>decide (s∈kZ d))))
def c104 {d:List aB} (z:Sz d) (A:Acc d) (l:List bV) (q:l.length<=1048576):f104 d l=some (wL d l):=by
 refine e104 ?_;rw[c137 z l q,ak];have B:=qM (l.filter λs=>decide (s∈kZ d));have D:=vq (λs=>decide (s∈kZ d)) l
 have:=h104 z A (all:=pI (l.filter λs=>decide (s∈kZ d))) (mX _).nodup af (λx w=>by
  have:=gH.1 w
  simpa using(dw.1 this).2) _ 0 [] rfl ai
 exact this
end Go.Proofs.YtacapiamkgkkjaaGreatDoor.cl
namespace Go.AM
section
variable {K V:Type}
def Uq (k:K):FD ([]:List (K×V)) k=none:=by simp[FD]
def Oe (x:K×V) (l:List (K×V)) (k:K):FD (x::l) k=open Classical in if k=x.1 then some 0 else(FD l k).map (· +1):=by unfold FD;rw[vg];by_cases h:k=x.1<;>simp[h]
def KL (k:K):getM ([]:List (K×V)) k=none:=by simp[getM,Uq]
def yJ (x:K×V) (l:List (K×V)) (k:K):getM (x::l) k=open Classical in if k=x.1 then some x.2 else getM l k:=by
 unfold getM;rw[Oe];by_cases h:k=x.1
 .simp[h]
 .simp only[h,e8];cases FD l k<;>simp
def ae1 (k:K) (v:V):uz [] k v=[(k,v)]:=by simp[uz,Uq]
def aaT (x:K×V) (l:List (K×V)) (k:K) (v:V):uz (x::l) k v=open Classical in if k=x.1 then(k,v)::l else x::uz l k v:=by
 unfold uz;rw[Oe];by_cases h:k=x.1
 .simp[h]
 .simp only[h,e8];cases FD l k<;>simp
def Fe (k k':K) (v:V):∀l:List (K×V),getM (uz l k v) k'=open Classical in if k'=k then some v else getM l k':=by intro l;induction l with
 |nil=>rw[ae1,yJ,KL]
 |cons x l w=>
  rw[aaT];by_cases h:k=x.1
  .rw[aC h,yJ,yJ];by_cases q:k'=k
   .simp[q]
   .have:¬k'=x.1:=λe=>q (by rw[e,h])
    simp[q,this]
  .rw[aA h,yJ,w,yJ];by_cases q:k'=x.1
   .have:¬k'=k:=λe=>h (by rw[<-e,q])
    simp[q,this];intro e;exact absurd e (λe=>h e.symm)
   .simp[q]
def MY (k:K) (v:V) (l:List (K×V)):getM (uz l k v) k=some v:=by rw[Fe];simp
theorem Ib {k k':K} (h:k'≠k) (v:V) (l:List (K×V)):getM (uz l k v) k'=getM l k':=by rw[Fe,aA h]
variable {R:Type}
def tO {l:List (K×V)} {k:K} {v:V} (h:getM l k=some v) (f:V->Option R) (z:Option R):tD l k f z=f v:=by unfold tD;rw[h]
def tN {l:List (K×V)} {k:K} (h:getM l k=none) (f:V->Option R) (z:Option R):tD l k f z=z:=by unfold tD;rw[h]
def xH {l:Type} (x:l) (k:l->Option R):yg x k=k x:=rfl
end
end Go.AM
namespace Go.Proofs.YtacapiamkgkkjaaGreatDoor.cl
open Go Go.AM
