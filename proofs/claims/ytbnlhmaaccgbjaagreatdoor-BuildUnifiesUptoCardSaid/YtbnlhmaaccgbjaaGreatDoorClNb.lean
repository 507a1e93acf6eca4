/- The Closure laws. -/
import Derived.Test.YtbnlhmaaccgbjaaGreatDoorClG
import Derived.Lib.DecodeN
set_option linter.all false
namespace Go.Proofs.YtbnlhmaaccgbjaaGreatDoor.cl
open Go Go.AM
def h37 (l:List b9) (s:b9) (q:l.length<=1073741824):∀(xs:List b9) (i:Nat),l.drop i=xs->Yy l s i=some (decide (s∈xs)):=by intro xs;induction xs with
 |nil=>intro i h;refine k37_2 ?_;rw[bq h];simp
 |cons x xs w=>
  intro i h;refine k37_2 ?_;rw[aV h,ak,aM h,aR h q,w (i+1) (aI h)];by_cases e:x=s
  .subst e;rw[cond_pos ai];simp
  .rw[cond_neg (by simpa using e)]
   have:¬s=x:=λh=>e h.symm
   simp[this]
def c37 (l:List b9) (s:b9) (q:l.length<=1073741824):f37 l s=some (decide (s∈l)):=e37 (h37 l s q l 0 rfl)
def h98 (l:List b9) (s:b9) (D:l.length<=1073741824):∀(xs:List b9) (i:Nat),l.drop i=xs->i<=l.length->YI l s i []=some (l.take i++qS s xs):=by intro xs;induction xs with
 |nil=>
  intro i h w;refine k98_3 ?_;have B:=mT h;obtain rfl:i=l.length:=by omega
  rw[bq h,az,az,EF (aU _),bU aH,bU aH,EF (aU _),bU aH];simp[qS]
 |cons x xs G=>
  intro i h w;refine k98_3 ?_;have F:=eF h;have z:l.take (i+1)=l.take i++[x]:=by rw[de,bZ h];rfl
  have q:(l.take l.length).drop i=x::xs:=by rw[gp,h]
  rw[aV h,ak,aM h,ak,aM h,aR h D,G (i+1) (aI h) af,qS];cases H:Op.bytesLess x s with
  |true=>simp[z]
  |false=>
   rw[az];by_cases e:x=s
   .subst e;rw[cond_pos ai];simp only[aB,ey,eP,<-h,lY]
   .rw[cond_neg (by simpa using e),EF af,cC _ ai aH af,cC _ aH ai af,EF af,cC _ aH aH af,bg,q];simp[e]
def c98 (l:List b9) (s:b9) (q:l.length<=1073741824):f98 l s=some (qS s l):=e98 (by
 have:=h98 l s q l 0 rfl af
 simpa using this)
def h111 (d:List aC) (s:b9) (l:d.length<=1073741824):∀(xs:List aC) (i:Nat),d.drop i=xs->P6 d s i=some (jo (λt=>t.Name==s) xs i):=by intro xs;induction xs with
 |nil=>intro i h;refine ace ?_;rw[bq h];rfl
 |cons x xs q=>intro i h;refine ace ?_;rw[aV h,ak,aM h,aR h l,q (i+1) (aI h),jo];cases x.Name==s<;>rfl
def fd (d:List aC) (s:b9):Int:=jo (λt=>t.Name==s) d 0
def Y8 (d:List aC) (s:b9) (l:d.length<=1073741824):f111 d s=some (fd d s):=e111 (h111 d s l d 0 rfl)
abbrev kH (d:List aC):List b9:=d.map (·.Name)
def ab5 {l:Type} (p:l->Bool):∀(xs:List l) (i:Nat),jo p xs i<0↔∀x∈xs,p x=false:=by intro xs;induction xs with
 |nil=>intro i;simp[jo]
 |cons x xs q=>intro i;rw[jo];cases h:p x with
  |true=>simp[h]
  |false=>simp[h,q (i+1)]
def XA {B:Type} (p:B->Bool):∀(xs:List B) (i:Nat),(∃x∈xs,p x=true)->∃j,∃h:j<xs.length,jo p xs i=((i+j:Nat):Int)/\p xs[j]=true/\∀k (z:k<j),p (xs[k]'(by omega))=false:=by intro xs;induction xs with
 |nil=>intro i h;obtain⟨x,G,_⟩:=h;cases G
 |cons x xs H=>intro i h;rw[jo];cases q:p x with
  |true=>exact⟨0,by simp,by simp,by simpa using q,λk z=>by omega⟩
  |false=>
   obtain⟨j,I,e,D,F⟩:=H (i+1) (by
    obtain⟨y,w,l⟩:=h;rcases aJ.1 w with rfl|w
    .rw[q] at l;cases l
    .exact⟨y,w,l⟩)
   refine⟨j+1,by simp;omega,?_,by simpa using D,?_⟩
   .simp only[ey,eP,e];congr 1;omega
   .intro k z;cases k with
    |zero=>simpa using q
    |succ k=>simpa using F k af
def OB {d:List aC} {s:b9}:fd d s<0↔s∉kH d:=by
 rw[fd,ab5];constructor
 .intro h q;obtain⟨t,l,e⟩:=aD.1 q;have:=h t l;simp[e] at this
 .intro h t l;simp only[kN,ne_eq];exact λe=>h (e▸iK l)
def IK {d:List aC} {s:b9} (h:s∈kH d):∃j,∃l:j<d.length,fd d s=(j:Int)/\d[j].Name=s/\∀k (q:k<j),(d[k]'(by omega)).Name≠s:=by obtain⟨t,D,e⟩:=aD.1 h;obtain⟨j,l,w,z,B⟩:=XA (λt:aC=>t.Name==s) d 0 ⟨t,D,by simpa using e⟩;exact⟨j,l,by rw[fd,w];simp,by simpa using z,λk q=>by simpa using B k q⟩
def h52 (d:List aC) (l:d.length<=1073741824):∀(xs:List aC) (i:Nat) (o:List b9),d.drop i=xs->o.length<=i->Yz d o i=some ((xs.map (·.Name)).foldl (λo s=>qS s o) o):=by intro xs;induction xs with
 |nil=>intro i o h q;refine k52_3 ?_;rw[bq h];rfl
 |cons x xs w=>intro i o h q;refine k52_3 ?_;have:=eF h;have:=nC x.Name o;rw[aV h,ak,aM h,aR h l,c98 _ _ af,aj,w (i+1) _ (aI h) af];rfl
def c52 (d:List aC) (l:d.length<=1073741824):f52 d=some (oK (kH d)):=e52 (h52 d l d 0 [] rfl ai)
def UD (d:List aC):Bool:=decide (d.length>256)||d.any λt=>decide (t.dW.length>256)||decide (t.bJ.length>256)
def h70 (d:List aC) (z:d.length<=1073741824):∀(xs:List aC) (i:Nat),d.drop i=xs->YF d i=some (if(xs.any λt=>decide (t.dW.length>256)||decide (t.bJ.length>256))=true then 7 else 0):=by intro xs;induction xs with
 |nil=>intro i h;refine k70_4 ?_;rw[bq h];rfl
 |cons x xs B=>
  intro i h;refine k70_4 ?_;rw[aV h,ak,aM h,aM h,aR h z,B (i+1) (aI h),qZ];by_cases l:x.dW.length>256
  .rw[cond_pos aH];simp[l]
  .rw[cond_neg aH];by_cases q:x.bJ.length>256
   .rw[cond_pos aH];simp[q]
   .rw[cond_neg aH];have e1:decide (x.dW.length>256)=false:=by simpa using l
    have w:decide (x.bJ.length>256)=false:=by simpa using q
    rw[e1,w,kK,kK]
def c70 (d:List aC):f70 d=some (if UD d=true then 7 else 0):=by
 refine e70 ?_;by_cases h:d.length>256
 .rw[cond_pos aH];simp[UD,h]
 .rw[cond_neg aH];have e:decide (d.length>256)=false:=by simpa using h
  rw[UD,e,kK];exact h70 d af d 0 rfl
def oB (c:UInt8):Bool:=decide (48<=c.toNat)&&decide (c.toNat<=57)
def BE (c:UInt8):Bool:=decide (97<=c.toNat)&&decide (c.toNat<=122)
def isName (s:b9):Bool:=decide (1<=s.length)&&decide (s.length<=32)&& !oB (s.getD 0 0)&& !(s.getD 0 0).toNat==45&&s.all λc=>oB c||c.toNat==45||BE c
def c159 (c:UInt8):f159 (c.toNat:Int)=some (oB c):=by
 refine e159 ?_;by_cases h:48<=c.toNat
 .rw[cond_pos aH];simp only[oB,h,zf,gF];congr 1;rw[p7];omega
 .rw[cond_neg aH];simp[oB,h]
def c167 (c:UInt8):f167 (c.toNat:Int)=some (BE c):=by
 refine e167 ?_;by_cases h:97<=c.toNat
 .rw[cond_pos aH];simp only[BE,h,zf,gF];congr 1;rw[p7];omega
 .rw[cond_neg aH];simp[BE,h]
def c160 (c:UInt8):f160 (c.toNat:Int) false=some (oB c||c.toNat==45||BE c):=by refine e160 ?_;rw[c159,aj,c167,aj];cases oB c with
 |true=>rfl
 |false=>
  by_cases h:c.toNat=45
  .rw[az,cond_pos aH];simp[h]
  .rw[az,cond_neg aH];simp[h]
def h140 (s:b9) (l:s.length<=1073741824):∀(xs:b9) (i:Nat),s.drop i=xs->Lz s false i=some (xs.all λc=>oB c||c.toNat==45||BE c):=by intro xs;induction xs with
 |nil=>intro i h;refine OT ?_;rw[bq h];rfl
 |cons x xs q=>intro i h;refine OT ?_;rw[aV h,ak,aM h,c160,aj,aR h l,q (i+1) (aI h),jC];cases(oB x||x.toNat==45||BE x)<;>rfl
def JN (s:b9):f110 s=some (isName s):=by
 refine e110 ?_
 have:f140 s false=some (isName s):=by
  refine e140 ?_;by_cases l:1<=s.length
  .rw[cond_neg aH];by_cases q:s.length<=32
   .rw[cond_neg aH,show(0:Int)=((0:Nat):Int) from rfl,cO af,c159,aj,cO af,h140 s af s 0 rfl];have z:s.getD 0 0=s[0]:=by rw[bC,aK af];rfl
    unfold isName;rw[z];cases oB s[0] with
    |true=>simp[l,q]
    |false=>
     by_cases w:s[0].toNat=45
     .rw[az,cond_pos aH];simp[w]
     .rw[az,cond_neg aH];simp[l,q,w]
   .rw[cond_pos aH];simp[isName,q]
  .rw[cond_pos aH];simp[isName,l]
 rw[this];rfl
def xd:List b9->List aC->Int
 |_,[]=>0
 |l,t::q=>if isName t.Name=false then 1 else if t.Name∈l then 4 else xd (l++[t.Name]) q
def fd_lt {d:List aC} {i:Nat} {t:aC} {H:List aC} (h:d.drop i=t::H):fd d t.Name<(i:Int)↔t.Name∈(d.take i).map (·.Name):=by
 have L:=eF h;have l:d[i]? =some t:=bZ h;obtain⟨j,N,e,B,D⟩:=IK (d:=d) (s:=t.Name) (iK (aZ l));rw[e];constructor
 .intro F;have q:j<i:=by omega
  refine aD.2 ⟨d[j],?_,B⟩;rw[uU];exact⟨j,by omega,rfl⟩
 .intro G;obtain⟨u,w,z⟩:=aD.1 G;rw[uU] at w;obtain⟨k,O,rfl⟩:=w;apply eB;intro I;exact D k af z
def h71 (d:List aC) (q:d.length<=1073741824):∀(xs:List aC) (i:Nat),d.drop i=xs->YG d i=some (xd ((d.take i).map (·.Name)) xs):=by intro xs;induction xs with
 |nil=>intro i h;refine k71_2 ?_;rw[bq h];rfl
 |cons x xs B=>
  intro i h;refine k71_2 ?_;have z:d.take (i+1)=d.take i++[x]:=by rw[de,bZ h];rfl
  rw[aV h,ak,aM h,JN,aj,aM h,Y8 d _ q,aj,aR h q,B (i+1) (aI h),xd,z];cases D:isName x.Name with
  |false=>rfl
  |true=>
   rw[dx,az];by_cases l:x.Name∈(d.take i).map (·.Name)
   .rw[cond_pos (by simpa using(fd_lt h).2 l)];simp only[zg,eP,l,fW]
   .rw[cond_neg (by simpa using λw=>l ((fd_lt h).1 w))];simp only[zg,eP,l,cn,bw,di]
def c71 (d:List aC) (l:d.length<=1073741824):f71 d=some (xd [] d):=e71 (h71 d l d 0 rfl)
def spK (q:List b9):List b9->List b9->Int
 |_,[]=>0
 |l,s::ss=>if s∉q then 5 else if s∈l then 4 else spK q (l++[s]) ss
def yJ (l:List b9):List aC->Int
 |[]=>0
 |t::q=>if spK l [] t.dW=0 then yJ l q else spK l [] t.dW
def h72b (d:List aC) (F:d.length<=1073741824) (i:Nat) (L:i<d.length) (l:List b9) (z:l.length<=1073741824) {r:Int} (H:T3 d (i+1:Nat)=some r):∀(xs:List b9) (k:Nat),l.drop k=xs->
  YH d i l k=some (if spK (kH d) (l.take k) xs=0 then r else spK (kH d) (l.take k) xs):=by
 intro xs;induction xs with
 |nil=>intro k h;refine k72_6 ?_;rw[bq h,az,bP af,H];rfl
 |cons x xs I=>
  intro k h;refine k72_6 ?_;have G:=eF h;have D:l.take (k+1)=l.take k++[x]:=by rw[de,bZ h];rfl
  rw[aV h,ak,aM h,Y8 d _ F,aj,spK];by_cases q:x∈kH d
  .rw[cond_neg (by simpa using λB=>(OB.1 B) q),EF af,aM h,c37 _ _ aH,aj,aR h z,I (k+1) (aI h),D];have e:List.drop 0 (List.take (Int.toNat (k:Int)) l)=l.take k:=ai;rw[e];by_cases w:x∈l.take k
   .rw[cond_pos (by simpa using w)];simp only[q,rf,eP,w,fW];rfl
   .rw[cond_neg (by simpa using w)];simp only[q,rf,eP,w]
  .rw[cond_pos (by simpa using OB.2 q)];simp only[q,not_false_eq_true,fW];rfl
def h72 (d:List aC) (l:d.length<=1073741824) (q:∀t∈d,t.dW.length<=1073741824):∀(xs:List aC) (i:Nat),d.drop i=xs->T3 d i=some (yJ (kH d) xs):=by intro xs;induction xs with
 |nil=>intro i h;refine k72_2 ?_;rw[bq h];rfl
 |cons x xs w=>intro i h;refine k72_2 ?_;rw[aV h,ak,aM h];exact h72b d l i (eF h) _ (q x (aZ (bZ h))) (w (i+1) (aI h)) _ 0 rfl
def c72 (d:List aC) (l:d.length<=1073741824) (q:∀t∈d,t.dW.length<=1073741824):f72 d=some (yJ (kH d) d):=e72 (h72 d l q d 0 rfl)
def KH:∀(d:List aC) (l:List b9),xd l d=0↔(∀t∈d,isName t.Name=true)/\(kH d).Nodup/\∀t∈d,t.Name∉l:=by intro d;induction d with
 |nil=>intro l;simp[xd]
 |cons t d I=>intro l;unfold xd;cases F:isName t.Name with
  |false=>simp[F]
  |true=>
   by_cases D:t.Name∈l
   .simp[D]
   .simp only[zg,eP,D,I,bu,cv,bw,gC,aJ,not_or];constructor
    .rintro⟨z,B,w⟩;refine⟨?_,⟨?_,B⟩,?_⟩
     .rintro u (rfl|q)
      .exact F
      .exact z u q
     .intro H;obtain⟨u,q,e⟩:=aD.1 H;exact(w u q).2.1 e
     .rintro u (rfl|q)
      .exact D
      .exact(w u q).1
    .rintro⟨z,⟨B,w⟩,G⟩;refine⟨λu q=>z u (.inr q),w,λu q=>⟨G u (.inr q),λe=>B (by rw[<-e];exact iK q),ai⟩⟩
def ad5 (H:List b9):∀(l q:List b9),spK H q l=0↔(∀s∈l,s∈H)/\l.Nodup/\∀s∈l,s∉q:=by intro l;induction l with
 |nil=>intro q;simp[spK]
 |cons s l N=>
  intro q;unfold spK;by_cases B:s∈H
  .by_cases F:s∈q
   .simp[B,F]
   .simp only[B,rf,eP,F,N,bu,cv,gC,aJ,not_or];constructor
    .rintro⟨D,G,z⟩;refine⟨?_,⟨λL=>(z s L).2.1 rfl,G⟩,?_⟩
     .rintro u (rfl|w)
      .exact B
      .exact D u w
     .rintro u (rfl|w)
      .exact F
      .exact(z u w).1
    .rintro⟨D,⟨G,z⟩,I⟩;exact⟨λu w=>D u (.inr w),z,λu w=>⟨I u (.inr w),λe=>G (by rw[<-e];exact w),ai⟩⟩
  .simp[B]
def Lq (q:List b9):∀(d:List aC),yJ q d=0↔∀t∈d,(∀s∈t.dW,s∈q)/\t.dW.Nodup:=by intro d;induction d with
 |nil=>simp[yJ]
 |cons t d B=>
  unfold yJ;have:=ad5 q t.dW [];split
  .rename_i h;rw[B];have w:=this.1 h;simp only[aJ,forall_eq_or_imp];exact⟨λl=>⟨⟨w.1,w.2.1⟩,l⟩,λl=>l.2⟩
  .rename_i h;constructor
   .intro z;exact absurd z h
   .intro l;exact absurd (this.2 ⟨(l t ai).1,(l t ai).2,ai⟩) h
end Go.Proofs.YtbnlhmaaccgbjaaGreatDoor.cl
namespace Go.Proofs.YtbnlhmaaccgbjaaGreatDoor.cl
open Go Go.AM
def h112 (t:aC) (o:List b9) (l:o.length<=1073741824) (q:t.dW.length<=1073741824):∀(xs:List b9) (i:Nat),t.dW.drop i=xs->P7 o i t=some (xs.all λs=>decide (s∈o)):=by intro xs;induction xs with
 |nil=>intro i h;refine acf ?_;rw[bq h];rfl
 |cons x xs z=>intro i h;refine acf ?_;rw[aV h,ak,aM h,c37 _ _ l,aj,aR h q,z (i+1) (aI h),jC];by_cases w:x∈o<;>simp[w]
def c112 (t:aC) (o:List b9) (l:o.length<=1073741824) (q:t.dW.length<=1073741824):f112 t o=some (t.dW.all λs=>decide (s∈o)):=e112 (h112 t o l q _ 0 rfl)
structure Sz (d:List aC):Prop where
 len:d.length<=1048576
 sup:∀t∈d,t.dW.length<=1048576
structure Ut (d:List aC) (o:List b9):Prop where
 nd:o.Nodup
 sub:∀x∈o,x∈kH d
 pre:∀i x,o[i]? =some x->∃t∈d,t.Name=x/\∀s∈t.dW,s∈o.take i
def Rdy (d:List aC) (o:List b9) (x:b9):Prop:=∃t∈d,t.Name=x/\x∉o/\∀s∈t.dW,s∈o
def Ut.len {d:List aC} {o:List b9} (h:Ut d o):o.length<=d.length:=by have:=jE h.nd h.sub;simpa using this
def h73b {d:List aC} (z:Sz d) {o:List b9} (ho:o.length<=d.length):∀(xs:List aC) (i:Nat) (more:Bool) (next:b9),d.drop i=xs->(more=true->Rdy d o next)->
  ∃(l:Bool) (q:b9),(l=true->Rdy d o q)/\(l=false->∀t∈xs,t.Name∉o->∃s∈t.dW,s∉o)/\(more=true->l=true)/\
   ∀r,L2 d l (if l=true then o++[q] else o)=some r->FW d more next i o=some r:=by
 have hl:=z.len;intro xs;induction xs with
 |nil=>
  intro i more next h N
  refine⟨more,next,N,λ_ t B=>(by cases B),λh=>h,λr w=> ?_⟩;refine XY ?_;rw[bq h,az];cases more with
  |true=>rw[ak,cC _ af ai af];rw[aB rfl] at w;exact w
  |false=>rw[az];rw[au ai] at w;exact w
 |cons x xs ih=>
  intro i more next h N
  have hx:x∈d:=aZ (bZ h);by_cases L:x.Name∈o
  .obtain⟨Q,S,H,a2,F,I⟩:=ih (i+1) more next (aI h) N
   refine⟨Q,S,H,λe t B G=> ?_,F,λr w=> ?_⟩
   .rcases aJ.1 B with rfl|B
    .exact absurd L G
    .exact a2 e t B G
   .refine XY ?_;rw[aV h,ak,aM h,c37 _ _ af,aj,cond_pos (by simpa using L),aR h af];exact I r w
  .by_cases h2:∀s∈x.dW,s∈o
   .have O:Rdy d o x.Name:=⟨x,hx,rfl,L,h2⟩
    have D:(x.dW.all λs=>decide (s∈o))=true:=by rw[cH];intro s P;simpa using h2 s P
    have go:∀U,Rdy d o U->(more=false->U=x.Name)->(more=true->U=if Op.bytesLess x.Name next=true then x.Name else next)->∃(l:Bool) (q:b9),(l=true->Rdy d o q)/\(l=false->∀t∈x::xs,t.Name∉o->∃s∈t.dW,s∉o)/\(more=true->l=true)/\
      ∀r,L2 d l (if l=true then o++[q] else o)=some r->FW d more next i o=some r:=by
     intro U G e1 e2;obtain⟨Q,S,H,a2,F,I⟩:=ih (i+1) true U (aI h) (λ_=>G);refine⟨Q,S,H,λe=>(by rw[F rfl] at e;cases e),λ_=>F rfl,λr w=> ?_⟩;have w:=I r w;refine XY ?_;rw[aV h,ak,aM h,c37 _ _ af,aj,cond_neg (by simpa using L),aM h,c112 _ _ af (by have:=z.sup x hx;omega),aj,D,dx,az];cases more with
     |false=>rw[eM,ak,aM h,aR h af];rw[e1 rfl] at w;exact w
     |true=>rw[dx,az,aM h,aM h,aR h af];have:=e2 rfl;cases hb:Op.bytesLess x.Name next with
      |true=>rw[hb,aB rfl] at this;rw[this] at w;rw[ak];exact w
      |false=>rw[hb] at this;simp only[ey,eP] at this;rw[this] at w;rw[az];exact w
    cases hm:more with
    |false=>rw[hm] at go;exact go x.Name O (λ_=>rfl) (λe=>by cases e)
    |true=>
     rw[hm] at go;refine go _ ?_ (λe=>by cases e) (λ_=>rfl);split
     .exact O
     .exact N hm
   .obtain⟨Q,S,H,a2,F,I⟩:=ih (i+1) more next (aI h) N
    have D:(x.dW.all λs=>decide (s∈o))=false:=by apply eB;intro hc;rw[Bool.not_eq_false,cH] at hc;exact h2 λs P=>by simpa using hc s P
    refine⟨Q,S,H,λe t B G=> ?_,F,λr w=> ?_⟩
    .rcases aJ.1 B with rfl|B
     .apply eB;intro hc;exact h2 λs P=>eB λZB=>hc ⟨s,P,ZB⟩
     .exact a2 e t B G
    .refine XY ?_;rw[aV h,ak,aM h,c37 _ _ af,aj,cond_neg (by simpa using L),aM h,c112 _ _ af (by have:=z.sup x hx;omega),aj,D,eM,ak,aR h af];exact I r w
def h73 {d:List aC} (z:Sz d):∀(n:Nat) (o:List b9),d.length-o.length=n->Ut d o->
  ∃out,Ut d out/\(∀t∈d,t.Name∉out->∃s∈t.dW,s∉out)/\L2 d true o=some out:=by
 intro n;induction n with
 |zero=>intro o hn w;have q:=w.len;obtain⟨S,I,L,N,U,F⟩:=h73b z q d 0 false [] rfl (λe=>by cases e);cases S with
  |false=>refine⟨o,w,N rfl,?_⟩;refine SP ?_;rw[ak];refine F _ ?_;refine SP ?_;simp
  |true=>
   obtain⟨t,H,e,B,G⟩:=L rfl
   have:(o++[I]).length<=(kH d).length:=jE (by
    rw[iI]
    exact⟨w.nd,by simp,λa O b D=>by simp only[cv] at D;subst D;exact λe=>B (e▸O)⟩) (λx l=>by
     rcases bu.1 l with l|l
     .exact w.sub x l
     .simp only[cv] at l;subst l;rw[<-e];exact iK H)
   simp at this;omega
 |succ n ih=>intro o hn w;have q:=w.len;obtain⟨S,I,L,N,U,F⟩:=h73b z q d 0 false [] rfl (λe=>by cases e);cases S with
  |false=>refine⟨o,w,N rfl,?_⟩;refine SP ?_;rw[ak];refine F _ ?_;refine SP ?_;simp
  |true=>
   obtain⟨t,H,e,B,G⟩:=L rfl;have hT:Ut d (o++[I]):=by
    refine⟨?_,?_,?_⟩
    .rw[iI];exact⟨w.nd,by simp,λa O b D=>by simp only[cv] at D;subst D;exact λe=>B (e▸O)⟩
    .intro x l;rcases bu.1 l with l|l
     .exact w.sub x l
     .simp only[cv] at l;subst l;rw[<-e];exact iK H
    .intro i x l;by_cases hi:i<o.length
     .rw[fL hi] at l;obtain⟨u,hu,e1,h1⟩:=w.pre i x l;exact⟨u,hu,e1,λs G=>by rw[List.take_append_of_le_length af];exact h1 s G⟩
     .have P:i=o.length:=by
       apply eB;intro hc;rw[gM aH] at l;cases l
      subst P;rw[fK af,nS] at l;simp only[zh,aW] at l;subst l;exact⟨t,H,e,λs Q=>by rw[uV];exact G s Q;rfl⟩
   obtain⟨out,b1,b2,b3⟩:=ih (o++[I]) aH hT;refine⟨out,b1,b2,?_⟩;refine SP ?_;rw[ak];exact F _ b3
def c73 {d:List aC} (z:Sz d):∃out,Ut d out/\(∀t∈d,t.Name∉out->∃s∈t.dW,s∉out)/\f73 d=some out:=by obtain⟨out,q,w,B⟩:=h73 z _ [] rfl ⟨ai,λx l=>(by cases l),λi x l=>(by simp at l)⟩;exact⟨out,q,w,e73 B⟩
def Dv (d:List aC):Prop:=∃r:b9->Nat,∀t∈d,∀s∈t.dW,r s<r t.Name
def K5 {d:List aC} {o:List b9} (O:(kH d).Nodup) (F:Ut d o) (L:∀t∈d,t.Name∈o):Dv d:=by
 refine⟨λx=>o.idxOf x,λt G s P=> ?_⟩;have N:=L t G;have D:o.idxOf t.Name<o.length:=List.idxOf_lt_length_iff.2 N;have l:o[o.idxOf t.Name]? =some t.Name:=by rw[aK D,List.getElem_idxOf D]
 obtain⟨u,Q,e,q⟩:=F.pre _ _ l;have B:u=t:=by
  obtain⟨i,w,rfl⟩:=iV.1 Q;obtain⟨j,z,rfl⟩:=iV.1 G
  have:(kH d)[i]'(by simpa using w)=(kH d)[j]'(by simpa using z):=by simpa using e
  have:=(rT O).1 this;subst this;rfl
 subst B;have:=q s P;rw[uU] at this;obtain⟨k,S,rfl⟩:=this;show o.idxOf o[k]<_;have H:o.idxOf o[k]=k:=F.nd.idxOf_getElem k af;have I:k<o.idxOf u.Name:=af;rw[H];exact I
def Ke {d:List aC} {o:List b9} (l:∀t∈d,∀s∈t.dW,s∈kH d) (q:∀t∈d,t.Name∉o->∃s∈t.dW,s∉o) (z:Dv d):∀t∈d,t.Name∈o:=by
 obtain⟨r,z⟩:=z;have key:∀(n:Nat) (t:aC),t∈d->r t.Name=n->t.Name∈o:=by intro n;induction n using Nat.strongRecOn with
  |_ n H=>intro t w e;apply eB;intro F;obtain⟨s,D,B⟩:=q t w F;obtain⟨u,G,rfl⟩:=aD.1 (l t w s D);have:=z t w _ D;exact B (H (r u.Name) af u G rfl)
 exact λt w=>key _ t w rfl
def F1 (d:List aC):Nat:=(d.filter λt=>t.dW.length==0).length
open Classical in
noncomputable def IG (d:List aC):Int:=
 if UD d=true then 7 else if xd [] d≠0 then xd [] d else if yJ (kH d) d≠0 then yJ (kH d) d else if F1 d≠1 then 1 else if Dv d then 0 else 6
def h32 {d:List aC} (z:Sz d) (P:xd [] d=0) (Q:yJ (kH d) d=0):∀(xs:List aC) (i n:Nat),d.drop i=xs->n<=i->
  LB d n i=some (open Classical in if n+F1 xs≠1 then 1 else if Dv d then 0 else 6):=by
 have hl:=z.len;intro xs;induction xs with
 |nil=>
  intro i n h U;refine aco ?_;obtain⟨out,G,L,N⟩:=c73 z;have B:=((KH d []).1 P).2.1;have w:∀t∈d,∀s∈t.dW,s∈kH d:=λt D=>((Lq _ d).1 Q t D).1
  rw[bq h,az];have O:n+F1 []=n:=rfl;rw[O];by_cases H:n=1
  .rw[cond_neg aH,N,aj,au af];by_cases F:Dv d
   .have l:=Ke w L F
    have:(kH d).length<=out.length:=jE B λx q=>by obtain⟨t,D,rfl⟩:=aD.1 q;exact l t D
    simp only[bz] at this;rw[cond_neg aH,aB F]
   .have:out.length<d.length:=by
     apply eB;intro hc;apply F;refine K5 B G λt D=> ?_
     exact V6 G.nd G.sub aH _ (iK D)
    rw[cond_pos aH,au F]
  .rw[cond_pos aH,aB H]
 |cons x xs I=>
  intro i n h U;refine aco ?_;have S:=eF h;rw[aV h,ak,aM h,aR h af,bP af];by_cases q:x.dW.length=0
  .rw[cond_pos (by simpa using q),I (i+1) (n+1) (aI h) af]
   have:F1 (x::xs)=F1 xs+1:=by simp[F1,nQ,q]
   rw[this,show n+1+F1 xs=n+(F1 xs+1) by omega]
  .rw[cond_neg (by simpa using q),I (i+1) n (aI h) af]
   have:F1 (x::xs)=F1 xs:=by
    have:(x.dW.length==0)=false:=by simpa using q
    simp[F1,nQ,this]
   rw[this]
def c32 {d:List aC} (z:Sz d):f32 d=some (IG d):=by
 have D:=z.len;refine e32 ?_;rw[c70,aj,c71 d af,aj,c72 d af (λt B=>by have:=z.sup t B;omega),aj];unfold IG;by_cases q:UD d=true
 .rw[aB q,aB q];rfl
 .rw[au q,au q];by_cases l:xd [] d=0
  .by_cases w:yJ (kH d) d=0
   .have:=h32 z l w d 0 0 rfl af;rw[l,w,au ai,au ai];simpa using this
   .rw[aB w,l,au ai];rw[cond_neg ai,cond_neg ai,cond_pos (by simpa using w)]
  .rw[aB l,cond_neg ai,cond_pos (by simpa using l)]
structure Acc (d:List aC):Prop where
 nd:(kH d).Nodup
 name:∀t∈d,isName t.Name=true
 dec:∀t∈d,∀s∈t.dW,s∈kH d
 top:F1 d=1
 rk:Dv d
def Jw {d:List aC} (h:IG d=0):Acc d:=by
 unfold IG at h;split at h
 .cases h
 split at h
 .rename_i l;exact absurd h l
 split at h
 .rename_i l;exact absurd h l
 split at h
 .cases h
 split at h
 .rename_i I l D F G;have q:xd [] d=0:=eB l;have w:yJ (kH d) d=0:=eB D;obtain⟨z,B,_⟩:=(KH d []).1 q;exact⟨B,z,λt H=>((Lq _ d).1 w t H).1,eB F,G⟩
 .cases h
end Go.Proofs.YtbnlhmaaccgbjaaGreatDoor.cl
namespace Go.Proofs.YtbnlhmaaccgbjaaGreatDoor.cl
open Go Go.AM
def dn (d:List aC) (x:b9):List b9:=(d.filter λt=>decide (x∈t.dW)).map (·.Name)
def up (d:List aC) (x:b9):List b9:=match d.find? (λt=>t.Name==x) with
 |some t=>t.dW
 |none=>[]
theorem KD {d:List aC} {x y:b9}:y∈dn d x↔∃t∈d,t.Name=y/\x∈t.dW:=by simp[dn];grind
def UW {d:List aC} {x y:b9} (h:y∈dn d x):y∈kH d:=by grind[KD]
def nd_eq {d:List aC} (w:(kH d).Nodup) {t u:aC} (z:t∈d) (B:u∈d) (e:t.Name=u.Name):t=u:=by
 obtain⟨i,l,rfl⟩:=iV.1 z;obtain⟨j,q,rfl⟩:=iV.1 B
 have:(kH d)[i]'(by simp_all)=(kH d)[j]'(by simp_all):=by simpa using e
 have:=(rT w).1 this;simp_all
def aek {d:List aC} (q:(kH d).Nodup) {t:aC} (w:t∈d):up d t.Name=t.dW:=by unfold up;cases e:d.find? _ with
 |none=>grind
 |some u=>have z:=p6 e;have l:=nR e;rw[nd_eq q l w (by simp_all)]
def adq {d:List aC} (l:(kH d).Nodup) {x y:b9} (z:x∈kH d):y∈up d x↔x∈dn d y:=by
 obtain⟨t,q,rfl⟩:=aD.1 z;rw[aek l q,KD];constructor
 .grind
 .rintro⟨u,w,e,h⟩;rw[nd_eq l w q e] at h;exact h
abbrev Le (d:List aC) (x y:b9):Prop:=sI (dn d) x y
def Tz {d:List aC} (A:Acc d) {x y:b9} (D:x∈kH d) (h:sI (up d) x y):y∈kH d/\Le d y x:=by induction h with
 |refl=>exact⟨D, .refl⟩
 | @step y z G l F=>
  obtain⟨w,B⟩:=F;refine⟨?_,?_⟩
  .obtain⟨t,q,e⟩:=aD.1 w;subst e;rw[aek A.nd q] at l;exact A.dec t q _ l
  .exact sI.trans (.step .refl ((adq A.nd w).1 l)) B
def sI.head {next:b9->List b9} {x y z:b9} (l:y∈next x) (q:sI next y z):sI next x z:=sI.trans (.step .refl l) q
def ael {d:List aC} (A:Acc d) {x y:b9} (h:Le d y x):sI (up d) x y:=by induction h with
 |refl=>exact .refl
 | @step u v w l q=>exact sI.head ((adq A.nd (UW l)).2 l) q
def PK {d:List aC} (A:Acc d) {x y:b9} (l:x∈kH d):sI (up d) x y↔Le d y x:=⟨λh=>(Tz A l h).2,ael A⟩
def O9 {d:List aC} {r:b9->Nat} (q:∀t∈d,∀s∈t.dW,r s<r t.Name) {x y:b9} (h:Le d x y):x=y\/r x<r y:=by induction h with
 |refl=>simp
 |step _ l B=>obtain⟨t,z,rfl,w⟩:=KD.1 l;grind
theorem le_antisymm {d:List aC} (A:Acc d) {x y:b9} (w:Le d x y) (z:Le d y x):x=y:=by
 obtain⟨r,l⟩:=A.rk;rcases O9 l w with h|h
 .exact h
 .rcases O9 l z with q|q
  .simp_all
  omega
def root {d:List aC} (A:Acc d):∃t∈kH d,∀y∈kH d,Le d t y:=by
 have w:=A.top;obtain⟨t,F⟩:=Ek.1 w;have B:t∈d.filter (λt=>t.dW.length==0):=by rw[F];simp
 refine⟨_,iK (c4.1 B).1,?_⟩;obtain⟨r,G⟩:=A.rk;have key:∀(n) (u),u∈d->r u.Name=n->Le d t.Name u.Name:=by intro n;induction n using Nat.strongRecOn with
  |_ n I=>intro u z e;cases D:u.dW with
   |nil=>
    have:u∈d.filter (λt=>t.dW.length==0):=c4.2 ⟨z,by simp[D]⟩
    rw[F,cv] at this;subst this;exact .refl
   |cons s l=>
    have q:s∈u.dW:=by rw[D];simp
    obtain⟨v,H,rfl⟩:=aD.1 (A.dec u z s q);have:=G u z _ q;exact .step (I _ af v H rfl) (KD.2 ⟨u,z,rfl,q⟩)
 simp_all
def h99b {d:List aC} (z:Sz d) {i:Nat} {x:b9}:∀(xs:List aC) (k:Nat) (o:List b9),d.drop k=xs->o[i]? =some x->o.length+xs.length<=2097152->∀r,
  T4 d (i+1:Nat) (mF o ((xs.filter λt=>decide (x∈t.dW)).map (·.Name)))=some r->NU d i k o=some r:=by
 have L:=z.len;intro xs;induction xs with
 |nil=>intro k o h w l r q;refine k99_8 ?_;have D:=(bQ.1 w).1;rw[bq h,az,bP af];exact q
 |cons t xs B=>
  intro k o h w l r q;refine k99_8 ?_;have D:=(bQ.1 w).1;have G:t∈d:=aZ (bZ h);have F:=z.sup t G;simp only[bp] at l;rw[aV h,ak,aM h,Bu D,bg,lB w,c37 _ _ af,aj,aR h af,aM h,c37 _ _ af,aj,aM h];rw[nQ] at q;by_cases H:x∈t.dW
  .rw[cond_pos (by simp_all)];rw[aB (by simp_all),bw] at q;by_cases I:t.Name∈o
   .rw[cond_neg (by simp_all)];refine B (k+1) o (aI h) w af r ?_;simp_all[mF,List.filter,decide]
   .rw[cond_pos (by simp_all),cC _ af ai af];refine B _ _ (aI h) (by grind) aH r ?_;simp_all[mF]
  .rw[cond_neg (by simp_all)];rw[au (by simp_all)] at q;exact B _ o (aI h) w af r q
def h99c (o:List b9) (q:o.length<=1073741824):∀(xs:List b9) (i:Nat) (out:List b9),o.drop i=xs->out.length<=i->G1 out i o=some (xs.foldl (λo s=>qS s o) out):=by intro xs;induction xs with
 |nil=>grind[adl,bq]
 |cons x xs w=>intro i out h z;refine adl ?_;have l:=eF h;have:=nC x out;rw[aV h,mh h,me h,c98 _ _ af,aj,aR h q,w _ _ (aI h) af];rfl
def c99 {d:List aC} (z:Sz d) {x:b9} (F:x∈kH d):∃l,f99 d x=some l/\SS l/\(∀y,y∈l↔Le d x y)/\l.length<=d.length:=by
 have P:=z.len;obtain⟨o,L,G,H,N⟩:=search F (λx _ y q=>UW q) (outer:=λi o=>T4 d i o) (fin:=λo=>G1 [] 0 o)
  (λi o B I r D=>by simp_all[k99_5,cond_neg])
  (λi o y B w q _ r D=>by
   have I:=(bQ.1 q).1;refine k99_5 ?_;rw[cond_pos aH];simp at B
   exact h99b z d 0 o rfl q af r D)
 simp at H;have Q:G1 _ 0 o=some (oK o):=h99c o af o 0 _ rfl ai;refine⟨_,?_,mC o,λy=>by rw[gH,G],by have:=qo o;omega⟩;refine e99 ?_;obtain⟨j,O,e,_⟩:=IK F;rw[Y8 d _ af,aj,e,cond_neg ai];simp_all
def h138b {d:List aC} (z:Sz d) {i:Nat} {l:List b9} (F:l.length<=1048576):∀(xs:List b9) (k:Nat) (o:List b9),l.drop k=xs->i<o.length->o.length+xs.length<=2097152->∀r,
  Lv d (i+1:Nat) (mF o xs)=some r->Lw d i l k o=some r:=by
 intro xs;induction xs with
 |nil=>intro k o h w q r B;refine aci ?_;rw[bq h,az,bP af];exact B
 |cons s xs D=>
  intro k o h w q r B;refine aci ?_;simp at q;rw[aV h,ak,aM h,c37 _ _ af,aj,aR h af,aM h];by_cases G:s∈o
  .rw[cond_neg (by simp_all)];refine D _ o (aI h) w af r ?_;simp_all[mF]
  .rw[cond_pos (by simp_all),cC _ af ai af];refine D _ _ (aI h) aH aH r ?_;simp_all[mF]
def h138c (o:List b9) (q:o.length<=1073741824):∀(xs:List b9) (i:Nat) (out:List b9),o.drop i=xs->out.length<=i->CH out i o=some (xs.foldl (λo s=>qS s o) out):=by intro xs;induction xs with
 |nil=>grind[XB,bq]
 |cons x xs w=>intro i out h z;refine XB ?_;have l:=eF h;have:=nC x out;rw[aV h,mh h,me h,c98 _ _ af,aj,aR h q,w _ _ (aI h) af];rfl
def c138 {d:List aC} (z:Sz d) (A:Acc d) {x:b9} (q:x∈kH d):∃l,f138 d x=some l/\SS l/\(∀y,y∈l↔Le d y x)/\l.length<=d.length:=by
 have hl:=z.len;obtain⟨o,S,L,N,U⟩:=search q (λx q y w=>(Tz A q (.step .refl w)).1) (outer:=λi o=>Lv d i o) (fin:=λo=>CH [] 0 o)
  (λi o H B r P=>by simp_all[ach,cond_neg])
  (λi o y H G w D r P=>by
   have B:=(bQ.1 w).1;refine ach ?_;obtain⟨j,F,e,O,_⟩:=IK D;simp at H;rw[cond_pos aH,Bu B,bg,lB w,Y8 d _ af,aj,e,cO _];have I:=z.sup _ (cG F);refine h138b z af d[j].dW 0 o rfl B af r ?_;have Q:up d y=d[j].dW:=by rw[<-O];exact aek A.nd (cG _)
   simp_all)
 simp at N;have hs:CH _ 0 o=some (oK o):=h138c o af o 0 _ rfl ai;refine⟨_,?_,mC o,λy=>by rw[gH,L,PK A q],by have:=qo o;omega⟩;refine e138 ?_;obtain⟨j,F,e,_⟩:=IK q;rw[Y8 d _ af,aj,e,cond_neg ai];simp_all
def h137 {d:List aC} (z:Sz d) (l:List b9) (F:l.length<=1048576):∀(xs:List b9) (i:Nat) (out:List b9),l.drop i=xs->out.length<=i->Lu d l out i=some ((xs.filter λs=>decide (s∈kH d)).foldl (λo s=>qS s o) out):=by have L:=z.len;intro xs;induction xs with
 |nil=>grind[acg,bq]
 |cons x xs B=>
  intro i out h I;refine acg ?_;have G:=eF h;have:=nC x out;rw[aV h,ak,aM h,Y8 d _ af,aj,aR h af,aM h,nQ];by_cases q:x∈kH d
  .have D:fd d x>=0:=by
    apply eB;intro H;exact OB.1 af q
   rw[cond_pos (by simp_all),c98 _ _ af,aj,B _ _ (aI h) af,aB (by simp_all)];rfl
  .have w:=OB.2 q;rw[cond_neg (by simp_all),B _ _ (aI h) af,au (by simp_all)]
def c137 {d:List aC} (z:Sz d) (l:List b9) (q:l.length<=1048576):f137 d l=some (oK (l.filter λs=>decide (s∈kH d))):=e137 (h137 z l q l 0 _ rfl ai)
open Classical in
noncomputable def sd (d:List aC) (all:List b9) (x:b9):Bool:=all.all λy=>decide (y=x)|| !decide (Le d y x)
def h104b {d:List aC} (z:Sz d) {all up:List b9} {i:Nat} {x:b9} (w:all[i]? =some x) (F:all.Nodup) (L:all.length<=1048576) (S:up.length<=1048576) (Q:∀y,y∈up↔Le d y x) {o:List b9} (U:o.length<=1048576) {r:List b9}:
  ∀(xs:List b9) (k:Nat) (l:Bool),all.drop k=xs->
  GN d all (i+1:Nat) (if(l&&sd d xs x)=true then o++[x] else o)=some r->GQ d all i up l k o=some r:=by
 intro xs;have B:=(bQ.1 w).1;induction xs with
 |nil=>
  intro k l h q;refine ab9 ?_;rw[bq h,az,bP af];have e:(l&&sd d [] x)=l:=by simp[sd]
  rw[e] at q;cases l with
  |true=>rw[ak,iX w,cC _ af ai af];rw[aB rfl] at q;exact q
  |false=>rw[az];rw[au ai] at q;exact q
 |cons y xs H=>
  intro k l h q;refine ab9 ?_;rw[aV h,ak,aR h af,aM h,c37 _ _ af,aj];have e:sd d (y::xs) x=((decide (y=x)|| !(open Classical in decide (Le d y x)))&&sd d xs x):=by simp[sd]
  rw[e] at q;cases l with
  |false=>rw[az];refine H (k+1) false (aI h) ?_;rw[pY] at q⊢;exact q
  |true=>
   rw[ak];by_cases N:k=i
   .subst N;rw[bZ h] at w;obtain rfl:y=x:=eT w;rw[cond_pos ai];refine H (k+1) true (aI h) ?_;have e1:(decide (y=y)|| !(open Classical in decide (Le d y y)))=true:=ai;rw[e1,gF] at q;exact q
   .have G:y≠x:=by
     intro e;subst e;have I:=bZ h;have D:=eF h;rw[aK D] at I;rw[aK B] at w;have:=(rT F).1 ((eT I).trans (eT w).symm);exact N this
    rw[cond_neg aH];refine H (k+1) _ (aI h) ?_;have O:decide (y=x)=false:=by simpa using G
    have P:decide (y∈up)=(open Classical in decide (Le d y x)):=by rw[p7];exact Q y
    rw[O,kK,gF] at q;rw[P];exact q
def h104 {d:List aC} (z:Sz d) (A:Acc d) {all:List b9} (q:all.Nodup) (l:all.length<=1048576) (F:∀x∈all,x∈kH d):∀(xs:List b9) (i:Nat) (o:List b9),all.drop i=xs->o.length<=i->
  GN d all i o=some (o++xs.filter (sd d all)):=by
 have N:=z.len;intro xs;induction xs with
 |nil=>intro i o h G;refine ab8 ?_;rw[bq h];simp
 |cons x xs w=>intro i o h G;refine ab8 ?_;have D:=eF h;obtain⟨u,H,_,B,I⟩:=c138 z A (F x (aZ (bZ h)));rw[aV h,ak,aM h,H,aj];refine h104b z (bZ h) q l af B af all 0 true rfl ?_;rw[gF,nQ];cases L:sd d all x with
  |true=>rw[aB rfl,aB rfl,w (i+1) (o++[x]) (aI h) aH];simp
  |false=>rw[au ai,au ai,w (i+1) o (aI h) af]
noncomputable def wh (d:List aC) (l:List b9):List b9:=(oK (l.filter λs=>decide (s∈kH d))).filter (sd d (oK (l.filter λs=>decide (s∈kH d))))
def c104 {d:List aC} (z:Sz d) (A:Acc d) (l:List b9) (q:l.length<=1048576):f104 d l=some (wh d l):=by
 refine e104 ?_;rw[c137 z l q,aj];have B:=qo (l.filter λs=>decide (s∈kH d));have D:=uW (λs=>decide (s∈kH d)) l
 have:=h104 z A (all:=oK (l.filter λs=>decide (s∈kH d))) (mC _).nodup af (λx w=>by
  have:=gH.1 w
  simpa using(c4.1 this).2) _ 0 [] rfl ai
 exact this
end Go.Proofs.YtbnlhmaaccgbjaaGreatDoor.cl
namespace Go.AM
section
variable {K V:Type}
def Tu (k:K):Fj ([]:List (K×V)) k=none:=by simp[Fj]
def NB (x:K×V) (l:List (K×V)) (k:K):Fj (x::l) k=open Classical in if k=x.1 then some 0 else(Fj l k).map (· +1):=by unfold Fj;rw[uM];by_cases h:k=x.1<;>simp[h]
def Kg (k:K):getM ([]:List (K×V)) k=none:=by simp[getM,Tu]
def yf (x:K×V) (l:List (K×V)) (k:K):getM (x::l) k=open Classical in if k=x.1 then some x.2 else getM l k:=by
 unfold getM;rw[NB];by_cases h:k=x.1
 .simp[h]
 .simp only[h,eP];cases Fj l k<;>simp
def adY (k:K) (v:V):yC [] k v=[(k,v)]:=by simp[yC,Tu]
def Z5 (x:K×V) (l:List (K×V)) (k:K) (v:V):yC (x::l) k v=open Classical in if k=x.1 then(k,v)::l else x::yC l k v:=by
 unfold yC;rw[NB];by_cases h:k=x.1
 .simp[h]
 .simp only[h,eP];cases Fj l k<;>simp
def yg (k k':K) (v:V):∀l:List (K×V),getM (yC l k v) k'=open Classical in if k'=k then some v else getM l k':=by intro l;induction l with
 |nil=>rw[adY,yf,Kg]
 |cons x l w=>
  rw[Z5];by_cases h:k=x.1
  .rw[aB h,yf,yf];by_cases q:k'=k
   .simp[q]
   .have:¬k'=x.1:=λe=>q (by rw[e,h])
    simp[q,this]
  .rw[au h,yf,w,yf];by_cases q:k'=x.1
   .have:¬k'=k:=λe=>h (by rw[<-e,q])
    simp[q,this];intro e;exact absurd e (λe=>h e.symm)
   .simp[q]
def Mr (k:K) (v:V) (l:List (K×V)):getM (yC l k v) k=some v:=by rw[yg];simp
theorem HB {k k':K} (h:k'≠k) (v:V) (l:List (K×V)):getM (yC l k v) k'=getM l k':=by rw[yg,au h]
variable {R:Type}
def zR {l:List (K×V)} {k:K} {v:V} (h:getM l k=some v) (f:V->Option R) (z:Option R):w6 l k f z=f v:=by unfold w6;rw[h]
def zQ {l:List (K×V)} {k:K} (h:getM l k=none) (f:V->Option R) (z:Option R):w6 l k f z=z:=by unfold w6;rw[h]
def Cz {l:Type} (x:l) (k:l->Option R):AR x k=k x:=rfl
end
end Go.AM
namespace Go.Proofs.YtbnlhmaaccgbjaaGreatDoor.cl
open Go Go.AM
