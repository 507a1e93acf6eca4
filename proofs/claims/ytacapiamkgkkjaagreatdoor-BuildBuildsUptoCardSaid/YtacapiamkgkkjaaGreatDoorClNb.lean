/- The Closure laws. -/
import Derived.Test.YtacapiamkgkkjaaGreatDoorClG
import Derived.Lib.DecodeN
set_option linter.all false
namespace Go.Proofs.YtacapiamkgkkjaaGreatDoor.cl
open Go Go.AM
def h37 (l:List cr) (s:cr) (q:l.length<=1073741824):∀(xs:List cr) (i:Nat),l.drop i=xs->Xl l s i=some (decide (s∈xs)):=by intro xs;induction xs with
 |nil=>intro i h;refine k37_2 ?_;rw[bp h];simp
 |cons x xs w=>
  intro i h;refine k37_2 ?_;rw[aT h,aj,aP h,aQ h q,w (i+1) (aJ h)];by_cases e:x=s
  .subst e;rw[cond_pos ai];simp
  .rw[cond_neg (by simpa using e)]
   have:¬s=x:=λh=>e h.symm
   simp[this]
def ZF (l:List cr) (s:cr) (q:l.length<=1073741824):f37 l s=some (decide (s∈l)):=e37 (h37 l s q l 0 rfl)
def h98 (l:List cr) (s:cr) (D:l.length<=1073741824):∀(xs:List cr) (i:Nat),l.drop i=xs->i<=l.length->Xv l s i []=some (l.take i++qP s xs):=by intro xs;induction xs with
 |nil=>
  intro i h w;refine k98_3 ?_;have B:=mh h;obtain rfl:i=l.length:=by omega
  rw[bp h,au,au,Ee (aW _),bU aH,bU aH,Ee (aW _),bU aH];simp[qP]
 |cons x xs G=>
  intro i h w;refine k98_3 ?_;have F:=eC h;have z:l.take (i+1)=l.take i++[x]:=by rw[dr,cn h];rfl
  have q:(l.take l.length).drop i=x::xs:=by rw[gw,h]
  rw[aT h,aj,aP h,aj,aP h,aQ h D,G (i+1) (aJ h) af,qP];cases H:Op.bytesLess x s with
  |true=>simp[z]
  |false=>
   rw[au];by_cases e:x=s
   .subst e;rw[cond_pos ai];simp only[aB,dB,eF,<-h,nQ]
   .rw[cond_neg (by simpa using e),Ee af,cH _ ai aH af,cH _ aH ai af,Ee af,cH _ aH aH af,aV,q];simp[e]
def c98 (l:List cr) (s:cr) (q:l.length<=1073741824):f98 l s=some (qP s l):=e98 (by
 have:=h98 l s q l 0 rfl af
 simpa using this)
def h111 (d:List aC) (s:cr) (l:d.length<=1073741824):∀(xs:List aC) (i:Nat),d.drop i=xs->Pf d s i=some (jm (λt=>t.Name==s) xs i):=by intro xs;induction xs with
 |nil=>intro i h;refine aaR ?_;rw[bp h];rfl
 |cons x xs q=>intro i h;refine aaR ?_;rw[aT h,aj,aP h,aQ h l,q (i+1) (aJ h),jm];cases x.Name==s<;>rfl
def fd (d:List aC) (s:cr):Int:=jm (λt=>t.Name==s) d 0
def XV (d:List aC) (s:cr) (l:d.length<=1073741824):f111 d s=some (fd d s):=e111 (h111 d s l d 0 rfl)
abbrev j9 (d:List aC):List cr:=d.map (·.Name)
def aaL {l:Type} (p:l->Bool):∀(xs:List l) (i:Nat),jm p xs i<0↔∀x∈xs,p x=false:=by intro xs;induction xs with
 |nil=>intro i;simp[jm]
 |cons x xs q=>intro i;rw[jm];cases h:p x with
  |true=>simp[h]
  |false=>simp[h,q (i+1)]
def Wl {B:Type} (p:B->Bool):∀(xs:List B) (i:Nat),(∃x∈xs,p x=true)->∃j,∃h:j<xs.length,jm p xs i=((i+j:Nat):Int)/\p xs[j]=true/\∀k (z:k<j),p (xs[k]'(by omega))=false:=by intro xs;induction xs with
 |nil=>intro i h;obtain⟨x,G,_⟩:=h;cases G
 |cons x xs H=>intro i h;rw[jm];cases q:p x with
  |true=>exact⟨0,by simp,by simp,by simpa using q,λk z=>by omega⟩
  |false=>
   obtain⟨j,I,e,D,F⟩:=H (i+1) (by
    obtain⟨y,w,l⟩:=h;rcases aI.1 w with rfl|w
    .rw[q] at l;cases l
    .exact⟨y,w,l⟩)
   refine⟨j+1,by simp;omega,?_,by simpa using D,?_⟩
   .simp only[dB,eF,e];congr 1;omega
   .intro k z;cases k with
    |zero=>simpa using q
    |succ k=>simpa using F k af
def NL {d:List aC} {s:cr}:fd d s<0↔s∉j9 d:=by
 rw[fd,aaL];constructor
 .intro h q;obtain⟨t,l,e⟩:=aD.1 q;have:=h t l;simp[e] at this
 .intro h t l;simp only[jf,ne_eq];exact λe=>h (e▸iH l)
def HU {d:List aC} {s:cr} (h:s∈j9 d):∃j,∃l:j<d.length,fd d s=(j:Int)/\d[j].Name=s/\∀k (q:k<j),(d[k]'(by omega)).Name≠s:=by obtain⟨t,D,e⟩:=aD.1 h;obtain⟨j,l,w,z,B⟩:=Wl (λt:aC=>t.Name==s) d 0 ⟨t,D,by simpa using e⟩;exact⟨j,l,by rw[fd,w];simp,by simpa using z,λk q=>by simpa using B k q⟩
def h52 (d:List aC) (l:d.length<=1073741824):∀(xs:List aC) (i:Nat) (o:List cr),d.drop i=xs->o.length<=i->Xm d o i=some ((xs.map (·.Name)).foldl (λo s=>qP s o) o):=by intro xs;induction xs with
 |nil=>intro i o h q;refine k52_3 ?_;rw[bp h];rfl
 |cons x xs w=>intro i o h q;refine k52_3 ?_;have:=eC h;have:=nv x.Name o;rw[aT h,aj,aP h,aQ h l,c98 _ _ af,ak,w (i+1) _ (aJ h) af];rfl
def c52 (d:List aC) (l:d.length<=1073741824):f52 d=some (ng (j9 d)):=e52 (h52 d l d 0 [] rfl ai)
def Tz (d:List aC):Bool:=decide (d.length>256)||d.any λt=>decide (t.dQ.length>256)||decide (t.bN.length>256)
def h70 (d:List aC) (z:d.length<=1073741824):∀(xs:List aC) (i:Nat),d.drop i=xs->Xs d i=some (if(xs.any λt=>decide (t.dQ.length>256)||decide (t.bN.length>256))=true then 7 else 0):=by intro xs;induction xs with
 |nil=>intro i h;refine k70_4 ?_;rw[bp h];rfl
 |cons x xs B=>
  intro i h;refine k70_4 ?_;rw[aT h,aj,aP h,aP h,aQ h z,B (i+1) (aJ h),nj];by_cases l:x.dQ.length>256
  .rw[cond_pos aH];simp[l]
  .rw[cond_neg aH];by_cases q:x.bN.length>256
   .rw[cond_pos aH];simp[q]
   .rw[cond_neg aH];have e1:decide (x.dQ.length>256)=false:=by simpa using l
    have w:decide (x.bN.length>256)=false:=by simpa using q
    rw[e1,w,ja,ja]
def c70 (d:List aC):f70 d=some (if Tz d=true then 7 else 0):=by
 refine e70 ?_;by_cases h:d.length>256
 .rw[cond_pos aH];simp[Tz,h]
 .rw[cond_neg aH];have e:decide (d.length>256)=false:=by simpa using h
  rw[Tz,e,ja];exact h70 d af d 0 rfl
def oD (c:UInt8):Bool:=decide (48<=c.toNat)&&decide (c.toNat<=57)
def Ba (c:UInt8):Bool:=decide (97<=c.toNat)&&decide (c.toNat<=122)
def isName (s:cr):Bool:=decide (1<=s.length)&&decide (s.length<=32)&& !oD (s.getD 0 0)&& !(s.getD 0 0).toNat==45&&s.all λc=>oD c||c.toNat==45||Ba c
def c159 (c:UInt8):f159 (c.toNat:Int)=some (oD c):=by
 refine e159 ?_;by_cases h:48<=c.toNat
 .rw[cond_pos aH];simp only[oD,h,uM,gq];congr 1;rw[nP];omega
 .rw[cond_neg aH];simp[oD,h]
def c167 (c:UInt8):f167 (c.toNat:Int)=some (Ba c):=by
 refine e167 ?_;by_cases h:97<=c.toNat
 .rw[cond_pos aH];simp only[Ba,h,uM,gq];congr 1;rw[nP];omega
 .rw[cond_neg aH];simp[Ba,h]
def c160 (c:UInt8):f160 (c.toNat:Int) false=some (oD c||c.toNat==45||Ba c):=by refine e160 ?_;rw[c159,ak,c167,ak];cases oD c with
 |true=>rfl
 |false=>
  by_cases h:c.toNat=45
  .rw[au,cond_pos aH];simp[h]
  .rw[au,cond_neg aH];simp[h]
def h140 (s:cr) (l:s.length<=1073741824):∀(xs:cr) (i:Nat),s.drop i=xs->KN s false i=some (xs.all λc=>oD c||c.toNat==45||Ba c):=by intro xs;induction xs with
 |nil=>intro i h;refine N8 ?_;rw[bp h];rfl
 |cons x xs q=>intro i h;refine N8 ?_;rw[aT h,aj,aP h,c160,ak,aQ h l,q (i+1) (aJ h),gH];cases(oD x||x.toNat==45||Ba x)<;>rfl
def I6 (s:cr):f110 s=some (isName s):=by
 refine e110 ?_
 have:f140 s false=some (isName s):=by
  refine e140 ?_;by_cases l:1<=s.length
  .rw[cond_neg aH];by_cases q:s.length<=32
   .rw[cond_neg aH,show(0:Int)=((0:Nat):Int) from rfl,cQ af,c159,ak,cQ af,h140 s af s 0 rfl];have z:s.getD 0 0=s[0]:=by rw[bq,aN af];rfl
    unfold isName;rw[z];cases oD s[0] with
    |true=>simp[l,q]
    |false=>
     by_cases w:s[0].toNat=45
     .rw[au,cond_pos aH];simp[w]
     .rw[au,cond_neg aH];simp[l,q,w]
   .rw[cond_pos aH];simp[isName,q]
  .rw[cond_pos aH];simp[isName,l]
 rw[this];rfl
def wP:List cr->List aC->Int
 |_,[]=>0
 |l,t::q=>if isName t.Name=false then 1 else if t.Name∈l then 4 else wP (l++[t.Name]) q
def fd_lt {d:List aC} {i:Nat} {t:aC} {H:List aC} (h:d.drop i=t::H):fd d t.Name<(i:Int)↔t.Name∈(d.take i).map (·.Name):=by
 have L:=eC h;have l:d[i]? =some t:=cn h;obtain⟨j,N,e,B,D⟩:=HU (d:=d) (s:=t.Name) (iH (bf l));rw[e];constructor
 .intro F;have q:j<i:=by omega
  refine aD.2 ⟨d[j],?_,B⟩;rw[uN];exact⟨j,by omega,rfl⟩
 .intro G;obtain⟨u,w,z⟩:=aD.1 G;rw[uN] at w;obtain⟨k,O,rfl⟩:=w;apply ef;intro I;exact D k af z
def h71 (d:List aC) (q:d.length<=1073741824):∀(xs:List aC) (i:Nat),d.drop i=xs->Xt d i=some (wP ((d.take i).map (·.Name)) xs):=by intro xs;induction xs with
 |nil=>intro i h;refine k71_2 ?_;rw[bp h];rfl
 |cons x xs B=>
  intro i h;refine k71_2 ?_;have z:d.take (i+1)=d.take i++[x]:=by rw[dr,cn h];rfl
  rw[aT h,aj,aP h,I6,ak,aP h,XV d _ q,ak,aQ h q,B (i+1) (aJ h),wP,z];cases D:isName x.Name with
  |false=>rfl
  |true=>
   rw[di,au];by_cases l:x.Name∈(d.take i).map (·.Name)
   .rw[cond_pos (by simpa using(fd_lt h).2 l)];simp only[yO,eF,l,fZ]
   .rw[cond_neg (by simpa using λw=>l ((fd_lt h).1 w))];simp only[yO,eF,l,bZ,bu,eY]
def c71 (d:List aC) (l:d.length<=1073741824):f71 d=some (wP [] d):=e71 (h71 d l d 0 rfl)
def spK (q:List cr):List cr->List cr->Int
 |_,[]=>0
 |l,s::ss=>if s∉q then 5 else if s∈l then 4 else spK q (l++[s]) ss
def yl (l:List cr):List aC->Int
 |[]=>0
 |t::q=>if spK l [] t.dQ=0 then yl l q else spK l [] t.dQ
def h72b (d:List aC) (F:d.length<=1073741824) (i:Nat) (L:i<d.length) (l:List cr) (z:l.length<=1073741824) {r:Int} (H:SZ d (i+1:Nat)=some r):∀(xs:List cr) (k:Nat),l.drop k=xs->
  Xu d i l k=some (if spK (j9 d) (l.take k) xs=0 then r else spK (j9 d) (l.take k) xs):=by
 intro xs;induction xs with
 |nil=>intro k h;refine k72_6 ?_;rw[bp h,au,bQ af,H];rfl
 |cons x xs I=>
  intro k h;refine k72_6 ?_;have G:=eC h;have D:l.take (k+1)=l.take k++[x]:=by rw[dr,cn h];rfl
  rw[aT h,aj,aP h,XV d _ F,ak,spK];by_cases q:x∈j9 d
  .rw[cond_neg (by simpa using λB=>(NL.1 B) q),Ee af,aP h,ZF _ _ aH,ak,aQ h z,I (k+1) (aJ h),D];have e:List.drop 0 (List.take (Int.toNat (k:Int)) l)=l.take k:=ai;rw[e];by_cases w:x∈l.take k
   .rw[cond_pos (by simpa using w)];simp only[q,qY,eF,w,fZ];rfl
   .rw[cond_neg (by simpa using w)];simp only[q,qY,eF,w]
  .rw[cond_pos (by simpa using NL.2 q)];simp only[q,not_false_eq_true,fZ];rfl
def h72 (d:List aC) (l:d.length<=1073741824) (q:∀t∈d,t.dQ.length<=1073741824):∀(xs:List aC) (i:Nat),d.drop i=xs->SZ d i=some (yl (j9 d) xs):=by intro xs;induction xs with
 |nil=>intro i h;refine k72_2 ?_;rw[bp h];rfl
 |cons x xs w=>intro i h;refine k72_2 ?_;rw[aT h,aj,aP h];exact h72b d l i (eC h) _ (q x (bf (cn h))) (w (i+1) (aJ h)) _ 0 rfl
def c72 (d:List aC) (l:d.length<=1073741824) (q:∀t∈d,t.dQ.length<=1073741824):f72 d=some (yl (j9 d) d):=e72 (h72 d l q d 0 rfl)
def JV:∀(d:List aC) (l:List cr),wP l d=0↔(∀t∈d,isName t.Name=true)/\(j9 d).Nodup/\∀t∈d,t.Name∉l:=by intro d;induction d with
 |nil=>intro l;simp[wP]
 |cons t d I=>intro l;unfold wP;cases F:isName t.Name with
  |false=>simp[F]
  |true=>
   by_cases D:t.Name∈l
   .simp[D]
   .simp only[yO,eF,D,I,bA,bS,bu,fM,aI,nC];constructor
    .rintro⟨z,B,w⟩;refine⟨?_,⟨?_,B⟩,?_⟩
     .rintro u (rfl|q)
      .exact F
      .exact z u q
     .intro H;obtain⟨u,q,e⟩:=aD.1 H;exact(w u q).2.1 e
     .rintro u (rfl|q)
      .exact D
      .exact(w u q).1
    .rintro⟨z,⟨B,w⟩,G⟩;refine⟨λu q=>z u (.inr q),w,λu q=>⟨G u (.inr q),λe=>B (by rw[<-e];exact iH q),ai⟩⟩
def acL (H:List cr):∀(l q:List cr),spK H q l=0↔(∀s∈l,s∈H)/\l.Nodup/\∀s∈l,s∉q:=by intro l;induction l with
 |nil=>intro q;simp[spK]
 |cons s l N=>
  intro q;unfold spK;by_cases B:s∈H
  .by_cases F:s∈q
   .simp[B,F]
   .simp only[B,qY,eF,F,N,bA,bS,fM,aI,nC];constructor
    .rintro⟨D,G,z⟩;refine⟨?_,⟨λL=>(z s L).2.1 rfl,G⟩,?_⟩
     .rintro u (rfl|w)
      .exact B
      .exact D u w
     .rintro u (rfl|w)
      .exact F
      .exact(z u w).1
    .rintro⟨D,⟨G,z⟩,I⟩;exact⟨λu w=>D u (.inr w),z,λu w=>⟨I u (.inr w),λe=>G (by rw[<-e];exact w),ai⟩⟩
  .simp[B]
def KG (q:List cr):∀(d:List aC),yl q d=0↔∀t∈d,(∀s∈t.dQ,s∈q)/\t.dQ.Nodup:=by intro d;induction d with
 |nil=>simp[yl]
 |cons t d B=>
  unfold yl;have:=acL q t.dQ [];split
  .rename_i h;rw[B];have w:=this.1 h;simp only[aI,forall_eq_or_imp];exact⟨λl=>⟨⟨w.1,w.2.1⟩,l⟩,λl=>l.2⟩
  .rename_i h;constructor
   .intro z;exact absurd z h
   .intro l;exact absurd (this.2 ⟨(l t ai).1,(l t ai).2,ai⟩) h
end Go.Proofs.YtacapiamkgkkjaaGreatDoor.cl
namespace Go.Proofs.YtacapiamkgkkjaaGreatDoor.cl
open Go Go.AM
def h112 (t:aC) (o:List cr) (l:o.length<=1073741824) (q:t.dQ.length<=1073741824):∀(xs:List cr) (i:Nat),t.dQ.drop i=xs->Pg o i t=some (xs.all λs=>decide (s∈o)):=by intro xs;induction xs with
 |nil=>intro i h;refine aaS ?_;rw[bp h];rfl
 |cons x xs z=>intro i h;refine aaS ?_;rw[aT h,aj,aP h,ZF _ _ l,ak,aQ h q,z (i+1) (aJ h),gH];by_cases w:x∈o<;>simp[w]
def c112 (t:aC) (o:List cr) (l:o.length<=1073741824) (q:t.dQ.length<=1073741824):f112 t o=some (t.dQ.all λs=>decide (s∈o)):=e112 (h112 t o l q _ 0 rfl)
structure Sz (d:List aC):Prop where
 len:d.length<=1048576
 sup:∀t∈d,t.dQ.length<=1048576
structure Tq (d:List aC) (o:List cr):Prop where
 nd:o.Nodup
 sub:∀x∈o,x∈j9 d
 pre:∀i x,o[i]? =some x->∃t∈d,t.Name=x/\∀s∈t.dQ,s∈o.take i
def Rdy (d:List aC) (o:List cr) (x:cr):Prop:=∃t∈d,t.Name=x/\x∉o/\∀s∈t.dQ,s∈o
def Tq.len {d:List aC} {o:List cr} (h:Tq d o):o.length<=d.length:=by have:=jy h.nd h.sub;simpa using this
def h73b {d:List aC} (z:Sz d) {o:List cr} (ho:o.length<=d.length):∀(xs:List aC) (i:Nat) (more:Bool) (next:cr),d.drop i=xs->(more=true->Rdy d o next)->
  ∃(l:Bool) (q:cr),(l=true->Rdy d o q)/\(l=false->∀t∈xs,t.Name∉o->∃s∈t.dQ,s∉o)/\(more=true->l=true)/\
   ∀r,Lc d l (if l=true then o++[q] else o)=some r->Ft d more next i o=some r:=by
 have hl:=z.len;intro xs;induction xs with
 |nil=>
  intro i more next h N
  refine⟨more,next,N,λ_ t B=>(by cases B),λh=>h,λr w=> ?_⟩;refine WL ?_;rw[bp h,au];cases more with
  |true=>rw[aj,cH _ af ai af];rw[aB rfl] at w;exact w
  |false=>rw[au];rw[aA ai] at w;exact w
 |cons x xs ih=>
  intro i more next h N
  have hx:x∈d:=bf (cn h);by_cases L:x.Name∈o
  .obtain⟨Q,S,H,a2,F,I⟩:=ih (i+1) more next (aJ h) N
   refine⟨Q,S,H,λe t B G=> ?_,F,λr w=> ?_⟩
   .rcases aI.1 B with rfl|B
    .exact absurd L G
    .exact a2 e t B G
   .refine WL ?_;rw[aT h,aj,aP h,ZF _ _ af,ak,cond_pos (by simpa using L),aQ h af];exact I r w
  .by_cases h2:∀s∈x.dQ,s∈o
   .have O:Rdy d o x.Name:=⟨x,hx,rfl,L,h2⟩
    have D:(x.dQ.all λs=>decide (s∈o))=true:=by rw[cF];intro s P;simpa using h2 s P
    have go:∀U,Rdy d o U->(more=false->U=x.Name)->(more=true->U=if Op.bytesLess x.Name next=true then x.Name else next)->∃(l:Bool) (q:cr),(l=true->Rdy d o q)/\(l=false->∀t∈x::xs,t.Name∉o->∃s∈t.dQ,s∉o)/\(more=true->l=true)/\
      ∀r,Lc d l (if l=true then o++[q] else o)=some r->Ft d more next i o=some r:=by
     intro U G e1 e2;obtain⟨Q,S,H,a2,F,I⟩:=ih (i+1) true U (aJ h) (λ_=>G);refine⟨Q,S,H,λe=>(by rw[F rfl] at e;cases e),λ_=>F rfl,λr w=> ?_⟩;have w:=I r w;refine WL ?_;rw[aT h,aj,aP h,ZF _ _ af,ak,cond_neg (by simpa using L),aP h,c112 _ _ af (by have:=z.sup x hx;omega),ak,D,di,au];cases more with
     |false=>rw[eB,aj,aP h,aQ h af];rw[e1 rfl] at w;exact w
     |true=>rw[di,au,aP h,aP h,aQ h af];have:=e2 rfl;cases hb:Op.bytesLess x.Name next with
      |true=>rw[hb,aB rfl] at this;rw[this] at w;rw[aj];exact w
      |false=>rw[hb] at this;simp only[dB,eF] at this;rw[this] at w;rw[au];exact w
    cases hm:more with
    |false=>rw[hm] at go;exact go x.Name O (λ_=>rfl) (λe=>by cases e)
    |true=>
     rw[hm] at go;refine go _ ?_ (λe=>by cases e) (λ_=>rfl);split
     .exact O
     .exact N hm
   .obtain⟨Q,S,H,a2,F,I⟩:=ih (i+1) more next (aJ h) N
    have D:(x.dQ.all λs=>decide (s∈o))=false:=by apply ef;intro hc;rw[Bool.not_eq_false,cF] at hc;exact h2 λs P=>by simpa using hc s P
    refine⟨Q,S,H,λe t B G=> ?_,F,λr w=> ?_⟩
    .rcases aI.1 B with rfl|B
     .apply ef;intro hc;exact h2 λs P=>ef λWg=>hc ⟨s,P,Wg⟩
     .exact a2 e t B G
    .refine WL ?_;rw[aT h,aj,aP h,ZF _ _ af,ak,cond_neg (by simpa using L),aP h,c112 _ _ af (by have:=z.sup x hx;omega),ak,D,eB,aj,aQ h af];exact I r w
def h73 {d:List aC} (z:Sz d):∀(n:Nat) (o:List cr),d.length-o.length=n->Tq d o->
  ∃out,Tq d out/\(∀t∈d,t.Name∉out->∃s∈t.dQ,s∉out)/\Lc d true o=some out:=by
 intro n;induction n with
 |zero=>intro o hn w;have q:=w.len;obtain⟨S,I,L,N,U,F⟩:=h73b z q d 0 false [] rfl (λe=>by cases e);cases S with
  |false=>refine⟨o,w,N rfl,?_⟩;refine RT ?_;rw[aj];refine F _ ?_;refine RT ?_;simp
  |true=>
   obtain⟨t,H,e,B,G⟩:=L rfl
   have:(o++[I]).length<=(j9 d).length:=jy (by
    rw[iE]
    exact⟨w.nd,by simp,λa O b D=>by simp only[bS] at D;subst D;exact λe=>B (e▸O)⟩) (λx l=>by
     rcases bA.1 l with l|l
     .exact w.sub x l
     .simp only[bS] at l;subst l;rw[<-e];exact iH H)
   simp at this;omega
 |succ n ih=>intro o hn w;have q:=w.len;obtain⟨S,I,L,N,U,F⟩:=h73b z q d 0 false [] rfl (λe=>by cases e);cases S with
  |false=>refine⟨o,w,N rfl,?_⟩;refine RT ?_;rw[aj];refine F _ ?_;refine RT ?_;simp
  |true=>
   obtain⟨t,H,e,B,G⟩:=L rfl;have hT:Tq d (o++[I]):=by
    refine⟨?_,?_,?_⟩
    .rw[iE];exact⟨w.nd,by simp,λa O b D=>by simp only[bS] at D;subst D;exact λe=>B (e▸O)⟩
    .intro x l;rcases bA.1 l with l|l
     .exact w.sub x l
     .simp only[bS] at l;subst l;rw[<-e];exact iH H
    .intro i x l;by_cases hi:i<o.length
     .rw[eX hi] at l;obtain⟨u,hu,e1,h1⟩:=w.pre i x l;exact⟨u,hu,e1,λs G=>by rw[List.take_append_of_le_length af];exact h1 s G⟩
     .have P:i=o.length:=by
       apply ef;intro hc;rw[gu aH] at l;cases l
      subst P;rw[fD af,nK] at l;simp only[yP,aM] at l;subst l;exact⟨t,H,e,λs Q=>by rw[uO];exact G s Q;rfl⟩
   obtain⟨out,b1,b2,b3⟩:=ih (o++[I]) aH hT;refine⟨out,b1,b2,?_⟩;refine RT ?_;rw[aj];exact F _ b3
def c73 {d:List aC} (z:Sz d):∃out,Tq d out/\(∀t∈d,t.Name∉out->∃s∈t.dQ,s∉out)/\f73 d=some out:=by obtain⟨out,q,w,B⟩:=h73 z _ [] rfl ⟨ai,λx l=>(by cases l),λi x l=>(by simp at l)⟩;exact⟨out,q,w,e73 B⟩
def C0 (d:List aC):Prop:=∃r:cr->Nat,∀t∈d,∀s∈t.dQ,r s<r t.Name
def Ko {d:List aC} {o:List cr} (O:(j9 d).Nodup) (F:Tq d o) (L:∀t∈d,t.Name∈o):C0 d:=by
 refine⟨λx=>o.idxOf x,λt G s P=> ?_⟩;have N:=L t G;have D:o.idxOf t.Name<o.length:=List.idxOf_lt_length_iff.2 N;have l:o[o.idxOf t.Name]? =some t.Name:=by rw[aN D,List.getElem_idxOf D]
 obtain⟨u,Q,e,q⟩:=F.pre _ _ l;have B:u=t:=by
  obtain⟨i,w,rfl⟩:=iQ.1 Q;obtain⟨j,z,rfl⟩:=iQ.1 G
  have:(j9 d)[i]'(by simpa using w)=(j9 d)[j]'(by simpa using z):=by simpa using e
  have:=(rK O).1 this;subst this;rfl
 subst B;have:=q s P;rw[uN] at this;obtain⟨k,S,rfl⟩:=this;show o.idxOf o[k]<_;have H:o.idxOf o[k]=k:=F.nd.idxOf_getElem k af;have I:k<o.idxOf u.Name:=af;rw[H];exact I
def Ju {d:List aC} {o:List cr} (l:∀t∈d,∀s∈t.dQ,s∈j9 d) (q:∀t∈d,t.Name∉o->∃s∈t.dQ,s∉o) (z:C0 d):∀t∈d,t.Name∈o:=by
 obtain⟨r,z⟩:=z;have key:∀(n:Nat) (t:aC),t∈d->r t.Name=n->t.Name∈o:=by intro n;induction n using Nat.strongRecOn with
  |_ n H=>intro t w e;apply ef;intro F;obtain⟨s,D,B⟩:=q t w F;obtain⟨u,G,rfl⟩:=aD.1 (l t w s D);have:=z t w _ D;exact B (H (r u.Name) af u G rfl)
 exact λt w=>key _ t w rfl
def DH (d:List aC):Nat:=(d.filter λt=>t.dQ.length==0).length
open Classical in
noncomputable def HJ (d:List aC):Int:=
 if Tz d=true then 7 else if wP [] d≠0 then wP [] d else if yl (j9 d) d≠0 then yl (j9 d) d else if DH d≠1 then 1 else if C0 d then 0 else 6
def h32 {d:List aC} (z:Sz d) (P:wP [] d=0) (Q:yl (j9 d) d=0):∀(xs:List aC) (i n:Nat),d.drop i=xs->n<=i->
  KP d n i=some (open Classical in if n+DH xs≠1 then 1 else if C0 d then 0 else 6):=by
 have hl:=z.len;intro xs;induction xs with
 |nil=>
  intro i n h U;refine aa0 ?_;obtain⟨out,G,L,N⟩:=c73 z;have B:=((JV d []).1 P).2.1;have w:∀t∈d,∀s∈t.dQ,s∈j9 d:=λt D=>((KG _ d).1 Q t D).1
  rw[bp h,au];have O:n+DH []=n:=rfl;rw[O];by_cases H:n=1
  .rw[cond_neg aH,N,ak,aA af];by_cases F:C0 d
   .have l:=Ju w L F
    have:(j9 d).length<=out.length:=jy B λx q=>by obtain⟨t,D,rfl⟩:=aD.1 q;exact l t D
    simp only[bC] at this;rw[cond_neg aH,aB F]
   .have:out.length<d.length:=by
     apply ef;intro hc;apply F;refine Ko B G λt D=> ?_
     exact UX G.nd G.sub aH _ (iH D)
    rw[cond_pos aH,aA F]
  .rw[cond_pos aH,aB H]
 |cons x xs I=>
  intro i n h U;refine aa0 ?_;have S:=eC h;rw[aT h,aj,aP h,aQ h af,bQ af];by_cases q:x.dQ.length=0
  .rw[cond_pos (by simpa using q),I (i+1) (n+1) (aJ h) af]
   have:DH (x::xs)=DH xs+1:=by simp[DH,fV,q]
   rw[this,show n+1+DH xs=n+(DH xs+1) by omega]
  .rw[cond_neg (by simpa using q),I (i+1) n (aJ h) af]
   have:DH (x::xs)=DH xs:=by
    have:(x.dQ.length==0)=false:=by simpa using q
    simp[DH,fV,this]
   rw[this]
def c32 {d:List aC} (z:Sz d):f32 d=some (HJ d):=by
 have D:=z.len;refine e32 ?_;rw[c70,ak,c71 d af,ak,c72 d af (λt B=>by have:=z.sup t B;omega),ak];unfold HJ;by_cases q:Tz d=true
 .rw[aB q,aB q];rfl
 .rw[aA q,aA q];by_cases l:wP [] d=0
  .by_cases w:yl (j9 d) d=0
   .have:=h32 z l w d 0 0 rfl af;rw[l,w,aA ai,aA ai];simpa using this
   .rw[aB w,l,aA ai];rw[cond_neg ai,cond_neg ai,cond_pos (by simpa using w)]
  .rw[aB l,cond_neg ai,cond_pos (by simpa using l)]
structure Acc (d:List aC):Prop where
 nd:(j9 d).Nodup
 name:∀t∈d,isName t.Name=true
 dec:∀t∈d,∀s∈t.dQ,s∈j9 d
 top:DH d=1
 rk:C0 d
def IP {d:List aC} (h:HJ d=0):Acc d:=by
 unfold HJ at h;split at h
 .cases h
 split at h
 .rename_i l;exact absurd h l
 split at h
 .rename_i l;exact absurd h l
 split at h
 .cases h
 split at h
 .rename_i I l D F G;have q:wP [] d=0:=ef l;have w:yl (j9 d) d=0:=ef D;obtain⟨z,B,_⟩:=(JV d []).1 q;exact⟨B,z,λt H=>((KG _ d).1 w t H).1,ef F,G⟩
 .cases h
end Go.Proofs.YtacapiamkgkkjaaGreatDoor.cl
namespace Go.Proofs.YtacapiamkgkkjaaGreatDoor.cl
open Go Go.AM
def dn (d:List aC) (x:cr):List cr:=(d.filter λt=>decide (x∈t.dQ)).map (·.Name)
def up (d:List aC) (x:cr):List cr:=match d.find? (λt=>t.Name==x) with
 |some t=>t.dQ
 |none=>[]
def JQ {d:List aC} {x y:cr}:y∈dn d x↔∃t∈d,t.Name=y/\x∈t.dQ:=by simp only[dn,aD,cE,je];exact⟨λ⟨t,⟨l,q⟩,w⟩=>⟨t,l,w,q⟩,λ⟨t,l,w,q⟩=>⟨t,⟨l,q⟩,w⟩⟩
def TX {d:List aC} {x y:cr} (h:y∈dn d x):y∈j9 d:=by obtain⟨t,l,e,_⟩:=JQ.1 h;exact e▸iH l
def nd_eq {d:List aC} (w:(j9 d).Nodup) {t u:aC} (z:t∈d) (B:u∈d) (e:t.Name=u.Name):t=u:=by
 obtain⟨i,l,rfl⟩:=iQ.1 z;obtain⟨j,q,rfl⟩:=iQ.1 B
 have:(j9 d)[i]'(by simpa using l)=(j9 d)[j]'(by simpa using q):=by simpa using e
 have:=(rK w).1 this;subst this;rfl
def acZ {d:List aC} (z:(j9 d).Nodup) {t:aC} (l:t∈d):up d t.Name=t.dQ:=by unfold up;cases e:d.find? (λu=>u.Name==t.Name) with
 |none=>rw[uI] at e;exact absurd (e t l) ai
 |some u=>have q:=pZ e;have w:=nJ e;rw[nd_eq z w l (by simpa using q)]
def abX {d:List aC} (q:(j9 d).Nodup) {x y:cr} (z:x∈j9 d):y∈up d x↔x∈dn d y:=by
 obtain⟨t,l,rfl⟩:=aD.1 z;rw[acZ q l,JQ];constructor
 .intro h;exact⟨t,l,rfl,h⟩
 .rintro⟨u,w,e,h⟩;rw[nd_eq q w l e] at h;exact h
abbrev Le (d:List aC) (x y:cr):Prop:=sV (dn d) x y
def Sx {d:List aC} (A:Acc d) {x y:cr} (D:x∈j9 d) (h:sV (up d) x y):y∈j9 d/\Le d y x:=by induction h with
 |refl=>exact⟨D, .refl⟩
 | @step y z G l F=>
  obtain⟨w,B⟩:=F;refine⟨?_,?_⟩
  .obtain⟨t,q,e⟩:=aD.1 w;subst e;rw[acZ A.nd q] at l;exact A.dec t q _ l
  .exact sV.trans (.step .refl ((abX A.nd w).1 l)) B
def sV.head {next:cr->List cr} {x y z:cr} (l:y∈next x) (q:sV next y z):sV next x z:=sV.trans (.step .refl l) q
def ac0 {d:List aC} (A:Acc d) {x y:cr} (h:Le d y x):sV (up d) x y:=by induction h with
 |refl=>exact .refl
 | @step u v w l q=>exact sV.head ((abX A.nd (TX l)).2 l) q
def OZ {d:List aC} (A:Acc d) {x y:cr} (l:x∈j9 d):sV (up d) x y↔Le d y x:=⟨λh=>(Sx A l h).2,ac0 A⟩
def Ot {d:List aC} {r:cr->Nat} (l:∀t∈d,∀s∈t.dQ,r s<r t.Name) {x y:cr} (h:Le d x y):x=y\/r x<r y:=by induction h with
 |refl=>exact .inl rfl
 |step _ z B=>
  obtain⟨t,w,rfl,q⟩:=JQ.1 z;have:=l t w _ q;rcases B with rfl|h
  .exact .inr this
  .exact .inr af
theorem le_antisymm {d:List aC} (A:Acc d) {x y:cr} (w:Le d x y) (z:Le d y x):x=y:=by
 obtain⟨r,q⟩:=A.rk;rcases Ot q w with h|h
 .exact h
 .rcases Ot q z with l|l
  .exact l.symm
  .omega
def root {d:List aC} (A:Acc d):∃t∈j9 d,∀y∈j9 d,Le d t y:=by
 have q:=A.top;unfold DH at q;obtain⟨t,F⟩:=DX.1 q;have B:t∈d.filter (λt=>t.dQ.length==0):=by rw[F];simp
 refine⟨t.Name,iH (cE.1 B).1,?_⟩;obtain⟨r,G⟩:=A.rk;have key:∀(n:Nat) (u:aC),u∈d->r u.Name=n->Le d t.Name u.Name:=by intro n;induction n using Nat.strongRecOn with
  |_ n L=>intro u z e;cases D:u.dQ with
   |nil=>
    have:u∈d.filter (λt=>t.dQ.length==0):=cE.2 ⟨z,by simp[D]⟩
    rw[F,bS] at this;subst this;exact .refl
   |cons s l=>
    have w:s∈u.dQ:=by rw[D];simp
    obtain⟨v,H,rfl⟩:=aD.1 (A.dec u z s w);have:=G u z _ w;exact .step (L (r v.Name) af v H rfl) (JQ.2 ⟨u,z,rfl,w⟩)
 intro y I;obtain⟨u,z,rfl⟩:=aD.1 I;exact key _ u z rfl
def h99b {d:List aC} (z:Sz d) {i:Nat} {x:cr}:∀(xs:List aC) (k:Nat) (o:List cr),d.drop k=xs->o[i]? =some x->o.length+xs.length<=2097152->∀r,
  S0 d (i+1:Nat) (iZ o ((xs.filter λt=>decide (x∈t.dQ)).map (·.Name)))=some r->M6 d i k o=some r:=by
 have L:=z.len;intro xs;induction xs with
 |nil=>intro k o h w q r l;refine k99_8 ?_;have F:=(bP.1 w).1;rw[bp h,au,bQ af];exact l
 |cons t xs G=>
  intro k o h w q r l;refine k99_8 ?_;have F:=(bP.1 w).1;have I:t∈d:=bf (cn h);have H:=z.sup t I;simp only[bw] at q;rw[aT h,aj,aP h,AX F,aV,kZ w,ZF _ _ af,ak,aQ h af,aP h,ZF _ _ af,ak,aP h];rw[fV] at l;by_cases B:x∈t.dQ
  .rw[cond_pos (by simpa using B)];rw[aB (by simpa using B),bu] at l;by_cases D:t.Name∈o
   .rw[cond_neg (by simpa using D)];refine G (k+1) o (aJ h) w af r ?_;have e:iZ o (t.Name::(List.filter (λt=>decide (x∈t.dQ)) xs).map (·.Name))=iZ o ((List.filter (λt=>decide (x∈t.dQ)) xs).map (·.Name)):=by simp[iZ,D]
    rw[e] at l;exact l
   .rw[cond_pos (by simpa using D),cH _ af ai af];refine G (k+1) (o++[t.Name]) (aJ h) (by rw[eX F];exact w) aH r ?_;have e:iZ o (t.Name::(List.filter (λt=>decide (x∈t.dQ)) xs).map (·.Name))=iZ (o++[t.Name]) ((List.filter (λt=>decide (x∈t.dQ)) xs).map (·.Name)):=by simp[iZ,D]
    rw[e] at l;exact l
  .rw[cond_neg (by simpa using B)];rw[aA (by simpa using B)] at l;exact G (k+1) o (aJ h) w af r l
def h99c (o:List cr) (w:o.length<=1073741824):∀(xs:List cr) (i:Nat) (out:List cr),o.drop i=xs->out.length<=i->Gt out i o=some (xs.foldl (λo s=>qP s o) out):=by intro xs;induction xs with
 |nil=>intro i out h l;refine abR ?_;rw[bp h];rfl
 |cons x xs z=>intro i out h l;refine abR ?_;have q:=eC h;have:=nv x out;rw[aT h,aj,mc h,mb h,c98 _ _ af,ak,aQ h w,z (i+1) _ (aJ h) af];rfl
def c99 {d:List aC} (z:Sz d) {x:cr} (F:x∈j9 d):∃l,f99 d x=some l/\SS l/\(∀y,y∈l↔Le d x y)/\l.length<=d.length:=by
 have Q:=z.len;obtain⟨o,O,G,H,I⟩:=search (next:=dn d) (U:=j9 d) (x0:=x) F (λx _ y q=>TX q) (R:=R99.T) (outer:=λi o=>S0 d i o) (fin:=λo=>Gt [] 0 o)
  (λi o D L r w=>by
   refine k99_5 ?_
   rw[cond_neg aH];exact w)
  (λi o y D B q _ r w=>by
   have L:=(bP.1 q).1;refine k99_5 ?_;rw[cond_pos aH];simp only[bC] at D
   exact h99b z d 0 o rfl q af r w)
 simp only[bC] at H;have N:Gt [] 0 o=some (ng o):=h99c o af o 0 [] rfl ai;refine⟨ng o,?_,mw o,λy=>by rw[gy,G],by have:=qk o;omega⟩;refine e99 ?_;obtain⟨j,P,e,_⟩:=HU F;rw[XV d _ af,ak,e,cond_neg ai];exact I _ N
def h138b {d:List aC} (z:Sz d) {i:Nat} {l:List cr} (G:l.length<=1048576):∀(xs:List cr) (k:Nat) (o:List cr),l.drop k=xs->i<o.length->o.length+xs.length<=2097152->∀r,
  KK d (i+1:Nat) (iZ o xs)=some r->KL d i l k o=some r:=by
 have H:=z.len;intro xs;induction xs with
 |nil=>intro k o h D q r w;refine aaV ?_;rw[bp h,au,bQ af];exact w
 |cons s xs F=>
  intro k o h D q r w;refine aaV ?_;simp only[bw] at q;rw[aT h,aj,aP h,ZF _ _ af,ak,aQ h af,aP h];by_cases B:s∈o
  .rw[cond_neg (by simpa using B)];refine F (k+1) o (aJ h) D af r ?_;have e:iZ o (s::xs)=iZ o xs:=by simp[iZ,B]
   rw[e] at w;exact w
  .rw[cond_pos (by simpa using B),cH _ af ai af];refine F (k+1) (o++[s]) (aJ h) aH aH r ?_;have e:iZ o (s::xs)=iZ (o++[s]) xs:=by simp[iZ,B]
   rw[e] at w;exact w
def h138c (o:List cr) (w:o.length<=1073741824):∀(xs:List cr) (i:Nat) (out:List cr),o.drop i=xs->out.length<=i->Cg out i o=some (xs.foldl (λo s=>qP s o) out):=by intro xs;induction xs with
 |nil=>intro i out h l;refine Wm ?_;rw[bp h];rfl
 |cons x xs z=>intro i out h l;refine Wm ?_;have q:=eC h;have:=nv x out;rw[aT h,aj,mc h,mb h,c98 _ _ af,ak,aQ h w,z (i+1) _ (aJ h) af];rfl
def c138 {d:List aC} (z:Sz d) (A:Acc d) {x:cr} (q:x∈j9 d):∃l,f138 d x=some l/\SS l/\(∀y,y∈l↔Le d y x)/\l.length<=d.length:=by
 have hl:=z.len;obtain⟨o,h1,O,P,Q⟩:=search (next:=up d) (U:=j9 d) (x0:=x) q (λx q y B=>(Sx A q (.step .refl B)).1) (R:=R138.T) (outer:=λi o=>KK d i o) (fin:=λo=>Cg [] 0 o)
  (λi o I D r F=>by
   refine aaU ?_
   rw[cond_neg aH];exact F)
  (λi o y I H B G r F=>by
   have D:=(bP.1 B).1;refine aaU ?_;obtain⟨j,w,e,S,_⟩:=HU G;simp only[bC] at I;rw[cond_pos aH,AX D,aV,kZ B,XV d _ af,ak,e,cQ w];have L:=z.sup _ (cG w);refine h138b z af d[j].dQ 0 o rfl D af r ?_;have N:up d y=d[j].dQ:=by rw[<-S];exact acZ A.nd (cG w)
   rw[<-N];exact F)
 simp only[bC] at P;have U:Cg [] 0 o=some (ng o):=h138c o af o 0 [] rfl ai;refine⟨ng o,?_,mw o,λy=>by rw[gy,O,OZ A q],by have:=qk o;omega⟩;refine e138 ?_;obtain⟨j,w,e,_⟩:=HU q;rw[XV d _ af,ak,e,cond_neg ai];exact Q _ U
def h137 {d:List aC} (z:Sz d) (l:List cr) (G:l.length<=1048576):∀(xs:List cr) (i:Nat) (out:List cr),l.drop i=xs->out.length<=i->KJ d l out i=some ((xs.filter λs=>decide (s∈j9 d)).foldl (λo s=>qP s o) out):=by have L:=z.len;intro xs;induction xs with
 |nil=>intro i out h F;refine aaT ?_;rw[bp h];rfl
 |cons x xs D=>
  intro i out h F;refine aaT ?_;have H:=eC h;have:=nv x out;rw[aT h,aj,aP h,XV d _ af,ak,aQ h af,aP h,fV];by_cases w:x∈j9 d
  .have B:fd d x>=0:=by
    apply ef;intro I;exact NL.1 af w
   rw[cond_pos (by simpa using B),c98 _ _ af,ak,D (i+1) _ (aJ h) af,aB (by simpa using w)];rfl
  .have q:=NL.2 w;rw[cond_neg (by simpa using q),D (i+1) _ (aJ h) af,aA (by simpa using w)]
def c137 {d:List aC} (z:Sz d) (l:List cr) (q:l.length<=1048576):f137 d l=some (ng (l.filter λs=>decide (s∈j9 d))):=e137 (h137 z l q l 0 [] rfl ai)
open Classical in
noncomputable def rU (d:List aC) (all:List cr) (x:cr):Bool:=all.all λy=>decide (y=x)|| !decide (Le d y x)
def h104b {d:List aC} (z:Sz d) {all up:List cr} {i:Nat} {x:cr} (w:all[i]? =some x) (F:all.Nodup) (L:all.length<=1048576) (S:up.length<=1048576) (Q:∀y,y∈up↔Le d y x) {o:List cr} (U:o.length<=1048576) {r:List cr}:
  ∀(xs:List cr) (k:Nat) (l:Bool),all.drop k=xs->
  Gj d all (i+1:Nat) (if(l&&rU d xs x)=true then o++[x] else o)=some r->Gk d all i up l k o=some r:=by
 intro xs;have B:=(bP.1 w).1;induction xs with
 |nil=>
  intro k l h q;refine aaP ?_;rw[bp h,au,bQ af];have e:(l&&rU d [] x)=l:=by simp[rU]
  rw[e] at q;cases l with
  |true=>rw[aj,iS w,cH _ af ai af];rw[aB rfl] at q;exact q
  |false=>rw[au];rw[aA ai] at q;exact q
 |cons y xs H=>
  intro k l h q;refine aaP ?_;rw[aT h,aj,aQ h af,aP h,ZF _ _ af,ak];have e:rU d (y::xs) x=((decide (y=x)|| !(open Classical in decide (Le d y x)))&&rU d xs x):=by simp[rU]
  rw[e] at q;cases l with
  |false=>rw[au];refine H (k+1) false (aJ h) ?_;rw[pX] at q⊢;exact q
  |true=>
   rw[aj];by_cases N:k=i
   .subst N;rw[cn h] at w;obtain rfl:y=x:=fB w;rw[cond_pos ai];refine H (k+1) true (aJ h) ?_;have e1:(decide (y=y)|| !(open Classical in decide (Le d y y)))=true:=ai;rw[e1,gq] at q;exact q
   .have G:y≠x:=by
     intro e;subst e;have I:=cn h;have D:=eC h;rw[aN D] at I;rw[aN B] at w;have:=(rK F).1 ((fB I).trans (fB w).symm);exact N this
    rw[cond_neg aH];refine H (k+1) _ (aJ h) ?_;have O:decide (y=x)=false:=by simpa using G
    have P:decide (y∈up)=(open Classical in decide (Le d y x)):=by rw[nP];exact Q y
    rw[O,ja,gq] at q;rw[P];exact q
def h104 {d:List aC} (z:Sz d) (A:Acc d) {all:List cr} (q:all.Nodup) (l:all.length<=1048576) (F:∀x∈all,x∈j9 d):∀(xs:List cr) (i:Nat) (o:List cr),all.drop i=xs->o.length<=i->
  Gj d all i o=some (o++xs.filter (rU d all)):=by
 have N:=z.len;intro xs;induction xs with
 |nil=>intro i o h G;refine aaO ?_;rw[bp h];simp
 |cons x xs w=>intro i o h G;refine aaO ?_;have D:=eC h;obtain⟨u,H,_,B,I⟩:=c138 z A (F x (bf (cn h)));rw[aT h,aj,aP h,H,ak];refine h104b z (cn h) q l af B af all 0 true rfl ?_;rw[gq,fV];cases L:rU d all x with
  |true=>rw[aB rfl,aB rfl,w (i+1) (o++[x]) (aJ h) aH];simp
  |false=>rw[aA ai,aA ai,w (i+1) o (aJ h) af]
noncomputable def vL (d:List aC) (l:List cr):List cr:=(ng (l.filter λs=>decide (s∈j9 d))).filter (rU d (ng (l.filter λs=>decide (s∈j9 d))))
def c104 {d:List aC} (z:Sz d) (A:Acc d) (l:List cr) (q:l.length<=1048576):f104 d l=some (vL d l):=by
 refine e104 ?_;rw[c137 z l q,ak];have B:=qk (l.filter λs=>decide (s∈j9 d));have D:=p5 (λs=>decide (s∈j9 d)) l
 have:=h104 z A (all:=ng (l.filter λs=>decide (s∈j9 d))) (mw _).nodup af (λx w=>by
  have:=gy.1 w
  simpa using(cE.1 this).2) _ 0 [] rfl ai
 exact this
end Go.Proofs.YtacapiamkgkkjaaGreatDoor.cl
namespace Go.AM
section
variable {K V:Type}
def Sr (k:K):Bl ([]:List (K×V)) k=none:=by simp[Bl]
def MR (x:K×V) (l:List (K×V)) (k:K):Bl (x::l) k=open Classical in if k=x.1 then some 0 else(Bl l k).map (· +1):=by unfold Bl;rw[uD];by_cases h:k=x.1<;>simp[h]
def Ru (k:K):getM ([]:List (K×V)) k=none:=by simp[getM,Sr]
def xS (x:K×V) (l:List (K×V)) (k:K):getM (x::l) k=open Classical in if k=x.1 then some x.2 else getM l k:=by
 unfold getM;rw[MR];by_cases h:k=x.1
 .simp[h]
 .simp only[h,eF];cases Bl l k<;>simp
def acC (k:K) (v:V):zo [] k v=[(k,v)]:=by simp[zo,Sr]
def YR (x:K×V) (l:List (K×V)) (k:K) (v:V):zo (x::l) k v=open Classical in if k=x.1 then(k,v)::l else x::zo l k v:=by
 unfold zo;rw[MR];by_cases h:k=x.1
 .simp[h]
 .simp only[h,eF];cases Bl l k<;>simp
def Jw (k k':K) (v:V):∀l:List (K×V),getM (zo l k v) k'=open Classical in if k'=k then some v else getM l k':=by intro l;induction l with
 |nil=>rw[acC,xS,Ru]
 |cons x l w=>
  rw[YR];by_cases h:k=x.1
  .rw[aB h,xS,xS];by_cases q:k'=k
   .simp[q]
   .have:¬k'=x.1:=λe=>q (by rw[e,h])
    simp[q,this]
  .rw[aA h,xS,w,xS];by_cases q:k'=x.1
   .have:¬k'=k:=λe=>h (by rw[<-e,q])
    simp[q,this];intro e;exact absurd e (λe=>h e.symm)
   .simp[q]
def LH (k:K) (v:V) (l:List (K×V)):getM (zo l k v) k=some v:=by rw[Jw];simp
theorem G0 {k k':K} (h:k'≠k) (v:V) (l:List (K×V)):getM (zo l k v) k'=getM l k':=by rw[Jw,aA h]
variable {R:Type}
def zh {l:List (K×V)} {k:K} {v:V} (h:getM l k=some v) (f:V->Option R) (z:Option R):wM l k f z=f v:=by unfold wM;rw[h]
def zg {l:List (K×V)} {k:K} (h:getM l k=none) (f:V->Option R) (z:Option R):wM l k f z=z:=by unfold wM;rw[h]
def B7 {l:Type} (x:l) (k:l->Option R):Ah x k=k x:=rfl
end
end Go.AM
namespace Go.Proofs.YtacapiamkgkkjaaGreatDoor.cl
open Go Go.AM
