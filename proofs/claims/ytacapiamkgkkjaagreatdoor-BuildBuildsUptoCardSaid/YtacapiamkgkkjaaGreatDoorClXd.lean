/- Layer 5. -/
import Derived.Test.YtacapiamkgkkjaaGreatDoorClSe
import Derived.Test.YtacapiamkgkkjaaGreatDoorClXc
set_option linter.all false
open Int (toNat)
open List (length)
namespace Go.Proofs.YtacapiamkgkkjaaGreatDoor.cl
open Go Go.AM
theorem Mn {d:List aC} {w:Nat} {F:cr}:∀(xs:List aC) (o:Option Nat),
  ((xs.foldl (Cs d w F) o).isSome=true↔o.isSome=true\/∃t∈xs,(val t F).isSome=true/\sub w (cwd d t.Name)=true)/\
  ∀c,xs.foldl (Cs d w F) o=some c->∀i,c.testBit i=true↔(∀a,o=some a->a.testBit i=true)/\∀t∈xs,∀v,val t F=some v->sub w (cwd d t.Name)=true->(cwd d v).testBit i=true:=by
 intro xs;induction xs with
 |nil=>intro o;refine⟨ai,λc G i=> ?_⟩;rw[List.foldl_nil] at G;subst G;simp
 |cons t xs U=>intro o;obtain⟨L,N⟩:=U (Cs d w F o t);rw[fO];cases I:val t F with
  |none=>
   have e:Cs d w F o t=o:=by unfold Cs;rw[I]
   rw[e] at L N⊢;constructor
   .rw[L];constructor
    .rintro (h|⟨u,q,h⟩)
     .exact .inl h
     .exact .inr ⟨u,by simp[q],h⟩
    .rintro (h|⟨u,q,h⟩)
     .exact .inl h
     .rcases aI.1 q with rfl|q
      .rw[I] at h;simp at h
      .exact .inr ⟨u,q,h⟩
   .intro c G i;rw[N c G i];constructor
    .rintro⟨a,b⟩;refine⟨a,λu q v l B=> ?_⟩;rcases aI.1 q with rfl|q
     .rw[I] at l;cases l
     .exact b u q v l B
    .rintro⟨a,b⟩;exact⟨a,λu q v l B=>b u (by simp[q]) v l B⟩
  |some v=>cases B:sub w (cwd d t.Name) with
   |false=>
    have e:Cs d w F o t=o:=by unfold Cs;rw[I,B];simp
    rw[e] at L N⊢;constructor
    .rw[L];constructor
     .rintro (h|⟨u,q,h⟩)
      .exact .inl h
      .exact .inr ⟨u,by simp[q],h⟩
     .rintro (h|⟨u,q,h⟩)
      .exact .inl h
      .rcases aI.1 q with rfl|q
       .rw[B] at h;simp at h
       .exact .inr ⟨u,q,h⟩
    .intro c G i;rw[N c G i];constructor
     .rintro⟨a,b⟩;refine⟨a,λu q v l z=> ?_⟩;rcases aI.1 q with rfl|q
      .rw[B] at z;cases z
      .exact b u q v l z
     .rintro⟨a,b⟩;exact⟨a,λu q v l z=>b u (by simp[q]) v l z⟩
   |true=>
    have e:Cs d w F o t=some (comb o (cwd d v)):=by unfold Cs;rw[I,B];cases o<;>rfl
    rw[e] at L N⊢;have D:∀i,(comb o (cwd d v)).testBit i=true↔(∀a,o=some a->a.testBit i=true)/\(cwd d v).testBit i=true:=by intro i;cases o with
     |none=>simp[comb]
     |some a=>simp[comb,lT]
    constructor
    .rw[L];constructor
     .intro _;exact .inr ⟨t,by simp,by rw[I];rfl,B⟩
     .intro _;exact .inl rfl
    .intro c G i;rw[N c G i];constructor
     .rintro⟨a,b⟩;have S:=(D i).1 (a _ rfl);refine⟨S.1,λu q Q l z=> ?_⟩;rcases aI.1 q with rfl|q
      .rw[I] at l;injection l with l;rw[<-l];exact S.2
      .exact b u q Q l z
     .rintro⟨a,b⟩;refine⟨λx P=> ?_,λu q Q l z=>b u (by simp[q]) Q l z⟩;injection P with P;rw[<-P];exact(D i).2 ⟨a,b t ai v I B⟩
def RG {d:List aC} {w:Nat} {F:cr}:(inh d w F).isSome=true↔∃t∈d,(val t F).isSome=true/\sub w (cwd d t.Name)=true:=by have:=(Mn (d:=d) (w:=w) (F:=F) d none).1;unfold inh;rw[this];simp
def Wj {d:List aC} {w:Nat} {F:cr} {c:Nat} (h:inh d w F=some c) (i:Nat):c.testBit i=true↔∀t∈d,∀v,val t F=some v->sub w (cwd d t.Name)=true->(cwd d v).testBit i=true:=by rw[(Mn (d:=d) (w:=w) (F:=F) d none).2 c h i];exact⟨λh=>h.2,λh=>⟨λa l=>(by cases l),h⟩⟩
def aaH {d:List aC} {w v:Nat} {F:cr} {a b:Nat} (z:sub v w=true) (l:inh d w F=some a) (q:inh d v F=some b):sub b a=true:=by rw[kA];intro i hi;rw[Wj l];intro t B x G D;exact(Wj q i).1 hi t B x G (yq z D)
def inh_up {d:List aC} {w v:Nat} {F:cr} (z:sub v w=true) (h:(inh d w F).isSome=true):(inh d v F).isSome=true:=by rw[RG] at h⊢;obtain⟨t,B,l,q⟩:=h;exact⟨t,B,l,yq z q⟩
def Yt {d:List aC} (A:Acc d) {w:Nat} {F u:cr} (h:A6 d F=some u):(inh d w F).isSome=sub w (cwd d u):=by
 obtain⟨D,G⟩:=(RM A).1 h;rw[iF,RG];constructor
 .rintro⟨t,q,z,l⟩;have B:t.Name∈sA d F:=FZ.2 ⟨t,q,z,rfl⟩;exact yq l ((NC (Gu B)).2 (G _ B))
 .intro l;obtain⟨t,q,z,rfl⟩:=FZ.1 D;exact⟨t,q,z,l⟩
def Zr.num {d:List aC} (O:Zr d) {w:Nat} (I:w∈tys d) {F:cr} (G:F∈qd d) {c:Nat} (h:inh d w F=some c):∃q:Nat,GY (tys d) c=(q:Int)/\q<(tys d).length/\(tys d).getD q 0=c:=by
 rcases inh_in O.ok (M8 O.fd) h with l|l
 .rw[l] at h;exact absurd h (O.vals w I F G)
 .obtain⟨q,z,B,D⟩:=NR l;exact⟨q,D,z,B⟩
def rowF_ge {d:List aC} {w:Nat}:∀(l:List cr) (k:Nat),∀x∈xE d w l k,(k:Int)<=x.bM:=by intro l;induction l with
 |nil=>intro k x q;cases q
 |cons F l z=>intro k x q;unfold xE at q;cases h:inh d w F with
  |none=>rw[h] at q;have:=z (k+1) x q;omega
  |some c=>
   rw[h] at q;rcases aI.1 q with rfl|q
   .simp
   .have:=z (k+1) x q;omega
def YT {d:List aC} {w:Nat}:∀(l:List cr) (k j:Nat) (F:cr),l[j]? =some F->(xE d w l k).find? (λx=>x.bM==((k+j:Nat):Int))=(inh d w F).map λc=>(⟨((k+j:Nat):Int),GY (tys d) c⟩:fL):=by intro l;induction l with
 |nil=>intro k j F h;simp at h
 |cons G l I=>intro k j F h;unfold xE;cases j with
  |zero=>
   have:G=F:=by simpa using h
   subst this;cases B:inh d w G with
   |none=>simp only[Aw];rw[uI];intro x D;have:=rowF_ge l (k+1) x D;simp only[gT];omega
   |some c=>simp only[lU,lX,beq_self_eq_true,cV]
  |succ j=>
   have z:l[j]? =some F:=by simpa using h
   have q:=I (k+1) j F z;have e:k+1+j=k+(j+1):=af;rw[e] at q;cases B:inh d w G with
   |none=>exact q
   |some c=>simp only[lU];rw[show((k:Int)==((k+(j+1):Nat):Int))=false by rw[jf];omega];exact q
def ac2 {d:List aC} {T:Nat} (hT:T<(tys d).length):∃h:T<(Lg d).length,(Lg d)[T]=xE d ((tys d).getD T 0) (qd d) 0:=by refine⟨by rw[Y1];exact hT,?_⟩;unfold Lg;rw[kM];congr 1;rw[bq,aN hT];rfl
def Ye {d:List aC} {j:Nat} {F:cr} (h:(qd d)[j]? =some F):∃hj:j<(vA d).length,(vA d)[j]=Jq d F:=by obtain⟨hj,e⟩:=bP.1 h;refine⟨by rw[Jr];exact hj,?_⟩;unfold vA;rw[kM,e]
end Go.Proofs.YtacapiamkgkkjaaGreatDoor.cl
namespace Go.Proofs.YtacapiamkgkkjaaGreatDoor.cl
open Go Go.AM
noncomputable def aci (d:List aC) (i:Nat):cr:=((dR d).getD i ([],0)).1
noncomputable def Vy (d:List aC) (i:Nat):fG:=⟨aci d i,e1 ((tys d).getD i 0),cast (acO (tys d) i),xE d ((tys d).getD i 0) (qd d) 0⟩
noncomputable def rV (d:List aC):aU:=⟨(List.range (tys d).length).map (Vy d),vA d⟩
def cds_at {d:List aC} {i:Nat} (h:i<(y6 d).length):(y6 d)[i]=⟨aci d i,e1 ((tys d).getD i 0)⟩:=by
 have hi:i<(dR d).length:=by simpa[y6] using h
 have e:(y6 d)[i]? =some ⟨aci d i,e1 ((tys d).getD i 0)⟩:=by unfold y6 aci tys;rw[dP,aN hi,bq,aN hi,bq,dP,aN hi];rfl
 rw[aN h] at e;exact fB e
def Ve {l:Type} (g:Nat->l) (i:Nat):(List.range i).map g++[g i]=(List.range (i+1)).map g:=by rw[kL,bZ];rfl
section
variable {d:List aC} (O:Zr d)
include O
theorem h332 (D:f320 d=some (vA d,0)) {L:aU} {b:List cU}:∀(n i:Nat),(tys d).length-i=n->i<=(tys d).length->
  Pk d (Lg d) (y6 d) i L ((List.range i).map (Vy d)) b=some (rV d,0):=by
 have N:=O.ok.cL;have G:=oa (d:=d);intro n;induction n with
 |zero=>
  intro i hi w;refine aa1 ?_
  have:i=(tys d).length:=af
  subst this;rw[cond_neg (by rw[aS];omega),D];rfl
 |succ n I=>intro i hi w;refine aa1 ?_;have q:i<(tys d).length:=af;have l:i<(y6 d).length:=af;obtain⟨z,B⟩:=ac2 q;rw[cond_pos (by rw[bz];omega),cQ l,cQ l,o28 O.ok.cd q,ak,cQ z,B,cds_at l,cH _ (by rw[bC,List.length_range];omega) ai af,bQ af];have:=Ve (Vy d) i;unfold Vy at this⊢;rw[this];exact I (i+1) af af
end
def c332 {d:List aC} (z:Sz d) (l:d.length<=64) (q:Fz d):f332 d=some (if xo d=0 then(rV d,0) else(⟨[],[]⟩,xo d)):=by
 refine e332 ?_;rw[c323 z l q,ak,c15 z l,ak];by_cases h:xo d=0
 .obtain⟨O,B,D⟩:=Kf z l q h;have w:=c320 z l q;rw[aB h] at w;rw[aB h,aB h,aA (by simpa using B),aA D,cond_neg ai];exact h332 O w _ 0 rfl af
 .rw[aA h,cond_pos (by simpa using h),aA h]
def CQ:List cr->List ec
 |a::b::l=>⟨a,b⟩::CQ l
 |_=>[]
def Tb {i:Nat} (h:i<4611686018427387904):IntKind.wrap .i64 ((i:Int)+2)=((i+2:Nat):Int):=by rw[oz af af];omega
def W0 {l:List cr} (L:l.length<=1000) {name:cr} {o6:aC} {sup a c:List cr} {b:List ec}:∀(n:Nat) (xs:List cr),xs.length<=n->∀(i:Nat) (w:List ec),l.drop i=xs->w.length<=i->i<=2000->
  Pn l i o6 name sup a b c w=some ⟨name,sup,w++CQ xs⟩/\Io l i o6 name a b c w=some ⟨name,c,w++CQ xs⟩:=by
 intro n;induction n with
 |zero=>
  intro xs D i w h z hi
  have:xs=[]:=nS.1 af
  subst this;have:=mh h;constructor
  .refine N9 ?_;rw[bQ af,cond_neg (by rw[aS];omega)];simp[CQ]
  .refine HY ?_;rw[bQ af,cond_neg (by rw[aS];omega)];simp[CQ]
 |succ n I=>intro xs D i w h z hi;match xs,h,D with
  |[],h,_=>
   have:=mh h;constructor
   .refine N9 ?_;rw[bQ af,cond_neg (by rw[aS];omega)];simp[CQ]
   .refine HY ?_;rw[bQ af,cond_neg (by rw[aS];omega)];simp[CQ]
  |[x],h,_=>
   have:=mh (aJ h);constructor
   .refine N9 ?_;rw[bQ af,cond_neg (by rw[aS];omega)];simp[CQ]
   .refine HY ?_;rw[bQ af,cond_neg (by rw[aS];omega)];simp[CQ]
  |x::y::r,h,D=>
   have B:=aJ h;have:=eC B;have G:=aJ B;simp only[bw] at D;obtain⟨p,q⟩:=I r af (i+2) (w++[⟨x,y⟩]) G (by rw[cM];simp;omega) af;rw[ew] at p q;constructor
   .refine N9 ?_;rw[bQ af,cond_pos (by rw[bz];omega),aP h,aP B,cH _ af ai af,Tb af];exact p
   .refine HY ?_;rw[bQ af,cond_pos (by rw[bz];omega),aP h,aP B,cH _ af ai af,Tb af];exact q
def FJ (name super:cr) (l:List cr) (w:l.length<=1000):f351 name super l=some ⟨name,if super=[] then[] else[super],CQ l⟩:=by
 refine e351 ?_;by_cases h:super=[]
 .subst h;have:=(W0 w (name:=name) (o6:=⟨[],[],[]⟩) (sup:=[]) (a:=[]) (c:=[]) (b:=[]) _ l (aW _) 0 [] rfl ai af).2;have q:(!(([]:List UInt8)==([]:List UInt8)))=false:=rfl;rw[dS] at this;rw[cond_neg q,aB rfl];exact this
 .have:=(W0 w (name:=name) (o6:=⟨[],[],[]⟩) (sup:=[super]) (a:=[]) (c:=[]) (b:=[]) _ l (aW _) 0 [] rfl ai af).1;have q:(!(super==([]:List UInt8)))=true:=by simpa using h
  rw[dS] at this;rw[cond_pos q,aA h];exact this
def Ai:List aC:=[
 ⟨[116,111,112],[],[]⟩,
 ⟨[108,105,115,116],[[116,111,112]],[]⟩,
 ⟨[99,111,110,115],[[108,105,115,116]],[⟨[70,73,82,83,84],[116,111,112]⟩,⟨[82,69,83,84],[108,105,115,116]⟩]⟩,
 ⟨[110,117,108,108],[[108,105,115,116]],[]⟩,
 ⟨[100,108,105,115,116],[[116,111,112]],[⟨[76,73,83,84],[108,105,115,116]⟩,⟨[76,65,83,84],[108,105,115,116]⟩]⟩,
 ⟨[105,110,100,101,120],[[116,111,112]],[]⟩,
 ⟨[104,97,110,100,108,101],[[105,110,100,101,120]],[]⟩,
 ⟨[101,118,101,110,116],[[105,110,100,101,120]],[]⟩,
 ⟨[101,110,116,105,116,121],[[105,110,100,101,120]],[]⟩,
 ⟨[114,101,108],[[116,111,112]],[⟨[76,65,66,69,76],[104,97,110,100,108,101]⟩]⟩,
 ⟨[113,101,113],[[116,111,112]],[⟨[72,73,71,72],[104,97,110,100,108,101]⟩,⟨[76,79,87],[104,97,110,100,108,101]⟩]⟩,
 ⟨[115,101,109],[[116,111,112]],[⟨[84,79,80],[104,97,110,100,108,101]⟩,⟨[73,78,68,69,88],[105,110,100,101,120]⟩,⟨[82,69,76,83],[100,108,105,115,116]⟩,⟨[67,79,78,83],[100,108,105,115,116]⟩]⟩,
 ⟨[115,105,103,110],[[116,111,112]],[⟨[83,69,77],[115,101,109]⟩,⟨[65,82,71,83],[108,105,115,116]⟩]⟩]
def c327:f327=some Ai:=by refine e327 ?_;rw[FJ _ _ _ (by decide),FJ _ _ _ (by decide),FJ _ _ _ (by decide),FJ _ _ _ (by decide),FJ _ _ _ (by decide),FJ _ _ _ (by decide),FJ _ _ _ (by decide),FJ _ _ _ (by decide),FJ _ _ _ (by decide),FJ _ _ _ (by decide),FJ _ _ _ (by decide),FJ _ _ _ (by decide),FJ _ _ _ (by decide)];simp only[ak];rfl
end Go.Proofs.YtacapiamkgkkjaaGreatDoor.cl
namespace Go.Proofs.YtacapiamkgkkjaaGreatDoor.cl
open Go Go.AM
structure Hd (h:aU) (cs:List Nat):Prop where
 eq:h.Types.map (·.Code)=cs.map e1
 lt:∀c∈cs,c<18446744073709551616
 len:cs.length<=1000
def Hd.length {h:aU} {cs:List Nat} (H:Hd h cs):h.Types.length=cs.length:=by have:=aR (λl=>l.length) H.eq;simpa using this
def Hd.code {h:aU} {cs:List Nat} (H:Hd h cs) {i:Nat} (hi:i<h.Types.length):h.Types[i].Code=e1 (cs.getD i 0):=by
 have q:i<cs.length:=by rw[<-H.length];exact hi
 have:=aR (λl=>l[i]?) H.eq;simp only[dP,aN hi,aN q,cV,aM] at this;rw[this,bq,aN q];rfl
def Hd.get {h:aU} {cs:List Nat} (H:Hd h cs) {i:Nat} (hi:i<cs.length):cs.getD i 0<18446744073709551616:=H.lt _ (kW hi)
def Yr {d:List aC} {i:Nat} (hi:i<(tys d).length):∃h:i<(rV d).Types.length,(rV d).Types[i]=Vy d i:=by refine⟨by simpa[rV] using hi,?_⟩;simp[rV]
def hd5 {d:List aC} (O:Zr d):Hd (rV d) (tys d):=by
 refine⟨?_,λc q=>O.ok.ltmem q,by have:=O.ok.cL;omega⟩;apply nH
 .simp[rV]
 .intro i w l;have hi:i<(tys d).length:=by simpa using l
  simp only[rV,kM,DV,Vy];rw[bq,aN hi];rfl
def CI (cs:List Nat) (w:Nat):Int×Bool:=if GY cs w<0 then(0,false) else(GY cs w,true)
def fnI (xs:List Nat) (w i:Nat):Int:=match xs.findIdx? (· ==w) with
 |some j=>((i+j:Nat):Int)
 |none=> -1
def Rm (cs:List Nat) (w:Nat):fnI cs w 0=GY cs w:=by unfold fnI GY;cases cs.findIdx? (· ==w)<;>simp
def Rl (c:Nat) (xs:List Nat) (w i:Nat):fnI (c::xs) w i=if c=w then(i:Int) else fnI xs w (i+1):=by
 unfold fnI;rw[uD];by_cases e:c=w
 .subst e;simp
 .have l:(c==w)=false:=by simpa using e
  rw[l,aA e];cases xs.findIdx? (· ==w) with
  |none=>rfl
  |some j=>
   show((i+(j+1):Nat):Int)=((i+1+j:Nat):Int)
   omega
def We {h:aU} {cs:List Nat} (H:Hd h cs) {i c:Nat} {xs:List Nat} (l:cs.drop i=c::xs):∃hi:i<h.Types.length,h.Types[i].Code=e1 c/\c<18446744073709551616:=by
 have hi:=eC l;have q:=H.length;refine⟨af,?_,?_⟩
 .rw[H.code,bq,cn l];rfl
 .exact H.lt c (bf (cn l))
section
variable {h:aU} {cs:List Nat} (H:Hd h cs)
include H
theorem h353 {w:Nat} (G:w<18446744073709551616):∀(xs:List Nat) (i:Nat),cs.drop i=xs->Po h.Types (e1 w) h.Types.length i=some (fnI xs w i):=by have L:=H.len;intro xs;induction xs with
 |nil=>intro i z;refine aa6 ?_;rw[H.length,bp z];rfl
 |cons c xs I=>
  intro i z;refine aa6 ?_;obtain⟨hi,D,q⟩:=We H z;have l:f371 h.Types[i] (e1 w)=some (decide (c=w)):=by refine e371 ?_;rw[D,o31 q G];rfl
  have B:=H.length;rw[cond_pos (by rw[bz];omega),cQ hi,l,ak,bQ af,I (i+1) (aJ z),Rl];by_cases e:c=w
  .rw[aB e,cond_pos (by simpa using e)]
  .rw[aA e,cond_neg (by simpa using e)]
theorem o353 {w:Nat} (l:w<18446744073709551616):f353 h.Types (e1 w)=some (GY cs w):=by refine e353 ?_;rw[<-Rm];exact h353 H l cs 0 rfl
theorem h354 {w:Nat} (D:w<18446744073709551616):∀(xs:List Nat) (i:Nat),cs.drop i=xs->Pp (e1 w) i h=some (if fnI xs w i<0 then(0,false) else(fnI xs w i,true)):=by have I:=H.len;intro xs;induction xs with
 |nil=>intro i q;refine aa7 ?_;rw[H.length,bp q];rfl
 |cons c xs G=>
  intro i q;refine aa7 ?_;obtain⟨hi,B,l⟩:=We H q;have z:=H.length;rw[cond_pos (by rw[bz];omega),cQ hi,B,o57 l D,ak,bQ af,G (i+1) (aJ q),Rl];by_cases e:c=w
  .rw[aB e,cond_pos (by simpa using e),aA af]
  .rw[aA e,cond_neg (by simpa using e)]
theorem o354 {w:Nat} (l:w<18446744073709551616):f354 h (e1 w)=some (CI cs w):=by refine e354 ?_;unfold CI;rw[<-Rm];exact h354 H l cs 0 rfl
variable (K:Zl cs) {i j:Nat} (hi:i<cs.length) (hj:j<cs.length)
include hi
theorem o339 {j:Nat} (hj:j<cs.length):f339 h i j=some (sub (cs.getD j 0) (cs.getD i 0)):=by refine e339 ?_;have l:=H.length;rw[cQ af,cQ af,H.code,H.code,o63 (H.get hj) (H.get hi)];rfl
theorem o340 {j:Nat} (hj:j<cs.length):f340 h i j=some (sub (cs.getD j 0) (cs.getD i 0)):=by refine e340 ?_;have l:=H.length;rw[cQ af,cQ af,H.code,H.code,o65 (H.get hj) (H.get hi)];rfl
include K hj
theorem o335:f335 h i j=some (CI cs (cs.getD i 0&&&cs.getD j 0)):=by
 refine e335 ?_;have B:=H.length;have z:cs.getD i 0&&&cs.getD j 0<18446744073709551616:=kI nN (H.get hi);rw[cQ af,cQ af,H.code,H.code,YF (H.get hi) (H.get hj),ak];by_cases q:cs.getD i 0&&&cs.getD j 0=0
 .rw[q,cond_pos (by rfl)];unfold CI;rw[V1 (λw=>K.nz 0 w rfl)];rfl
 .rw[cond_neg (by rw[jf];intro e;exact q (Eg af)),o353 H z,ak];unfold CI;by_cases l:GY cs (cs.getD i 0&&&cs.getD j 0)<0
  .rw[cond_pos (by simpa using l),aB l]
  .rw[cond_neg (by simpa using l),aA l]
theorem o336:f336 h i j=some (CI cs (cs.getD i 0&&&cs.getD j 0)):=by refine e336 ?_;have q:=H.length;have l:cs.getD i 0&&&cs.getD j 0<18446744073709551616:=kI nN (H.get hi);rw[cQ af,cQ af,H.code,H.code,o61 (H.get hi) (H.get hj),ak,o354 H l];rfl
end
def h355 {l:List fL} (B:l.length<=1000) (f:Int):∀(xs:List fL) (i:Nat),l.drop i=xs->Ir f l l.length i=some (match xs.find? λx=>x.bM==f with|some x=>(x.Value,true)|none=>(0,false)):=by intro xs;induction xs with
 |nil=>intro i q;refine Wt ?_;rw[bp q];rfl
 |cons x xs w=>intro i q;refine Wt ?_;rw[aT q,aj,aP q,aQ q af,w (i+1) (aJ q),lU];cases z:x.bM==f<;>simp
def h356 {l:List fL} (B:l.length<=1000) (f:Int):∀(xs:List fL) (i:Nat),l.drop i=xs->Pq f l i=some (match xs.find? λx=>x.bM==f with|some x=>(x.Value,true)|none=>(0,false)):=by intro xs;induction xs with
 |nil=>intro i q;refine aa8 ?_;rw[bp q];rfl
 |cons x xs w=>intro i q;refine aa8 ?_;rw[aT q,aj,aP q,aP q,aQ q af,w (i+1) (aJ q),lU];cases z:x.bM==f<;>rfl
def SH {d:List aC} {w j:Nat} {F:cr} (h:(qd d)[j]? =some F):(match(xE d w (qd d) 0).find? (λx=>x.bM==(j:Int)) with|some x=>(x.Value,true)|none=>(0,false))=(match inh d w F with|some c=>(GY (tys d) c,true)|none=>(0,false)):=by have:=YT (d:=d) (w:=w) (qd d) 0 j F h;rw[eN] at this;rw[this];cases inh d w F<;>rfl
section
variable {d:List aC} (O:Zr d) {T:Nat} (hT:T<(tys d).length) {j:Nat} {F:cr} (hj:(qd d)[j]? =some F)
include O hT hj
theorem o355:f355 (rV d) T j=some (match inh d ((tys d).getD T 0) F with|some c=>(GY (tys d) c,true)|none=>(0,false)):=by obtain⟨l,q⟩:=Yr hT;have z:=Hs (d:=d) (w:=(tys d).getD T 0) (qd d) 0;have w:=O.f64;refine e355 ?_;rw[cQ l,q,<-SH hj];exact h355 (by show(xE _ _ _ _).length<=1000;omega) j _ 0 rfl
theorem o356:f356 (rV d) T j=some (match inh d ((tys d).getD T 0) F with|some c=>(GY (tys d) c,true)|none=>(0,false)):=by obtain⟨l,q⟩:=Yr hT;have z:=Hs (d:=d) (w:=(tys d).getD T 0) (qd d) 0;have w:=O.f64;refine e356 ?_;rw[cQ l,q,<-SH hj];exact h356 (by show(xE _ _ _ _).length<=1000;omega) j _ 0 rfl
end
end Go.Proofs.YtacapiamkgkkjaaGreatDoor.cl
namespace Go.Proofs.YtacapiamkgkkjaaGreatDoor.cl.pf
open Go Go.AM
section
variable {R:Type}
def sG {l:List Int} {i:Nat} (h:i<l.length) (k:Int->Option R):check (0<=(i:Int)/\toNat (i:Int)<l.length) (eH l (toNat (i:Int)) k)=k (l.getD i 0):=by rw[bU ⟨af,by simpa using h⟩,aV];exact V6 h k
def Y9 {q:Type} {l:List (List q)} {i:Nat} (h:i<l.length) (k:List q->Option R):check (0<=(i:Int)/\toNat (i:Int)<l.length) (eH l (toNat (i:Int)) k)=k (l.getD i []):=by rw[bU ⟨af,by simpa using h⟩,aV];exact V6 h k
def AY {l:Nat} {i:Nat} (h:i<l) (a:Option R):check (0<=(i:Int)/\toNat (i:Int)<l) a=a:=bU ⟨af,by simpa using h⟩ a
def cO {l q w z:Type} (a:l) (b:q) (c:w) (d:z) (k:l->q->w->z->Option R):mH (some (a,b,c,d)) k=k a b c d:=rfl
def y4 {l q w z B:Type} (a:l) (b:q) (c:w) (d:z) (e:B) (k:l->q->w->z->B->Option R):I1 (some (a,b,c,d,e)) k=k a b c d e:=rfl
def I3 {l q w z B D:Type} (a:l) (b:q) (c:w) (d:z) (e:B) (g:D) (k:l->q->w->z->B->D->Option R):Qt (some (a,b,c,d,e,g)) k=k a b c d e g:=rfl
end
def e9 {q:Type} (l:List q) (i j:Nat) (v d:q):(l.set i v).getD j d=if i=j/\j<l.length then v else l.getD j d:=by
 rw[bq,bq,ny];by_cases e:i=j
 .subst e;by_cases h:i<l.length
  .simp[h]
  .simp[h]
 .simp[e]
structure PI (n:Nat) (par:List Int) (rep d:Nat->Nat):Prop where
 len:par.length=n
 up:∀x,x<n->∃y,y<n/\par.getD x 0=(y:Int)/\rep y=rep x/\(y=x\/d y<d x)
 fix:∀x,x<n->(par.getD x 0=(x:Int)↔rep x=x)
 rl:∀x,x<n->rep x<n
 rr:∀x,x<n->rep (rep x)=rep x
section
variable {n:Nat} {rep d:Nat->Nat} {TL:List fG} {FL:List cU} {ty:List Int} {ar:List (List cB)}
def h485:∀(k x:Nat) (l:List Int),d x<=k->x<n->PI n l rep d->∃B,K5 (x:Int) TL FL l ty ar=some (((rep x:Nat):Int),B,ty,ar)/\PI n B rep d:=by intro k;induction k with
 |zero=>
  intro x l hk G P;obtain⟨y,V,D,Q,h3⟩:=P.up x G;have q:x<l.length:=by rw[P.len];exact G
  have e:y=x:=af;subst e;refine⟨l,Ut ?_,P⟩;rw[sG q,D,cond_neg ai,(P.fix y G).1 D]
 |succ k ih=>
  intro x l hk G P;obtain⟨y,V,D,Q,h3⟩:=P.up x G;have q:x<l.length:=by rw[P.len];exact G
  have hyl:y<l.length:=by rw[P.len];exact V
  by_cases e:y=x
  .subst e;refine⟨l,Ut ?_,P⟩;rw[sG q,D,cond_neg ai,(P.fix y G).1 D]
  .have h3:d y<d x:=af;obtain⟨z,hz,g1,g2,g3⟩:=P.up y V;have L:d z<d x:=by rcases g3 with rfl|g3<;>omega
   have P':PI n (l.set x z) rep d:=by
    refine⟨by rw[ji];exact P.len,λw U=> ?_,λw U=> ?_,P.rl,P.rr⟩
    .by_cases I:x=w
     .subst I;exact⟨z,hz,by rw[e9,aB ⟨rfl,q⟩],by rw[g2,Q], .inr L⟩
     .obtain⟨v,S⟩:=P.up w U;exact⟨v,S.1,by rw[e9,aA (λh=>I h.1)];exact S.2.1,S.2.2⟩
    .by_cases I:x=w
     .subst I;rw[e9,aB ⟨rfl,q⟩];have hxz:z≠x:=λe=>by rw[e] at L;omega
      have:=P.fix x G;rw[D] at this;constructor
      .intro h;omega
      .intro h;have:=this.2 h;omega
     .rw[e9,aA (λh=>I h.1)];exact P.fix w U
   obtain⟨B,r1,r2⟩:=ih z (l.set x z) af hz P';refine⟨B,Ut ?_,r2⟩;rw[sG q,D,cond_pos aH,sG q,D,sG hyl,g1,sG q,aV];have hs:x<(l.set x (z:Int)).length:=by rw[ji];exact q
   have h0:=sG hs (λN=>K5 N TL FL (l.set x (z:Int)) ty ar);rw[aV] at h0;rw[h0,e9,aB ⟨rfl,q⟩,r1,g2,Q]
def c485 {x:Nat} {q:List Int} (B:x<n) (P:PI n q rep d):∃l,f485 (x:Int) TL FL q ty ar=some (((rep x:Nat):Int),l,ty,ar)/\PI n l rep d:=by obtain⟨l,w,z⟩:=h485 (TL:=TL) (FL:=FL) (ty:=ty) (ar:=ar) (d x) x q (aW _) B P;exact⟨l,e485 w,z⟩
end
def mg:List cB->List cB->List cB×List dL
 |[],l=>(l,[])
 |x::xs,[]=>(x::xs,[])
 |x::xs,y::l=>
  if x.bM<y.bM then(x::(mg xs (y::l)).1,(mg xs (y::l)).2)
  else if y.bM<x.bM then(y::(mg (x::xs) l).1,(mg (x::xs) l).2)
  else(x::(mg xs l).1,⟨x.To,y.To⟩::(mg xs l).2)
 termination_by x y=>x.length+y.length
def F1 (l:List cB):mg [] l=(l,[]):=by rw[mg]
def H9 (xs:List cB):mg xs []=(xs,[]):=by cases xs<;>rw[mg]
def ab1 {x y:cB} (xs l:List cB) (h:x.bM<y.bM):mg (x::xs) (y::l)=(x::(mg xs (y::l)).1,(mg xs (y::l)).2):=by rw[mg,aB h]
def ab0 {x y:cB} (xs l:List cB) (h:y.bM<x.bM):mg (x::xs) (y::l)=(y::(mg (x::xs) l).1,(mg (x::xs) l).2):=by rw[mg,aA af,aB h]
def abZ {x y:cB} (xs l:List cB) (h:x.bM=y.bM):mg (x::xs) (y::l)=(x::(mg xs l).1,⟨x.To,y.To⟩::(mg xs l).2):=by rw[mg,aA af,aA af]
structure MG (x y:List cB) (r:List cB×List dL):Prop where
 sub:∀a∈r.1,a∈x\/a∈y
 left:∀a∈x,a∈r.1
 right:∀a∈y,∃b∈r.1,b.bM=a.bM/\(b=a\/⟨b.To,a.To⟩∈r.2)
 pair:∀p∈r.2,∃a∈x,∃b∈y,a.bM=b.bM/\p=⟨a.To,b.To⟩
 le:r.2.length<=y.length
def DK (l:List cB):Prop:=l.Pairwise λp q=>p.bM<q.bM
def G7:∀(k:Nat) (x y:List cB),x.length+y.length<=k->MG x y (mg x y)
 |_,[],y,_=>by rw[F1];exact⟨λa h=> .inr h,λa h=>by(cases h),λa h=>⟨a,h,rfl, .inl rfl⟩,λp h=>by(cases h),c4 _⟩
 |_,x::xs,[],_=>by rw[H9];exact⟨λa h=> .inl h,λa h=>h,λa h=>by(cases h),λp h=>by(cases h),c4 _⟩
 |0,x::xs,y::B,h=>by simp at h
 |k+1,x::xs,y::B,h=>by
  simp only[bw] at h;rcases yS x.bM y.bM with I|w|G
  .rw[ab1 _ _ I];have M:=G7 k xs (y::B) (by simp only[bw];omega);refine⟨λa h=> ?_,λa h=> ?_,λa h=> ?_,λp h=> ?_,M.le⟩
   .rcases aI.1 h with rfl|h
    .exact .inl ai
    .rcases M.sub a h with h|h
     .exact .inl (by simp[h])
     .exact .inr h
   .rcases aI.1 h with rfl|h
    .simp
    .exact dF _ (M.left a h)
   .obtain⟨b,q,l⟩:=M.right a h;exact⟨b,dF _ q,l⟩
   .obtain⟨a,z,b,q,l⟩:=M.pair p h;exact⟨a,dF _ z,b,q,l⟩
  .rw[abZ _ _ w];have M:=G7 k xs B af;refine⟨λa h=> ?_,λa h=> ?_,λa h=> ?_,λp h=> ?_,by simp only[bw];have:=M.le;omega⟩
   .rcases aI.1 h with rfl|h
    .exact .inl ai
    .rcases M.sub a h with h|h
     .exact .inl (by simp[h])
     .exact .inr (by simp[h])
   .rcases aI.1 h with rfl|h
    .simp
    .exact dF _ (M.left a h)
   .rcases aI.1 h with rfl|h
    .exact⟨x,by simp,w, .inr ai⟩
    .obtain⟨b,q,l,D⟩:=M.right a h;exact⟨b,dF _ q,l,D.imp id (dF _)⟩
   .rcases aI.1 h with rfl|h
    .exact⟨x,by simp,y,by simp,w,rfl⟩
    .obtain⟨a,z,b,q,l⟩:=M.pair p h;exact⟨a,dF _ z,b,dF _ q,l⟩
  .rw[ab0 _ _ G];have M:=G7 k (x::xs) B (by simp only[bw];omega);refine⟨λa h=> ?_,λa h=> ?_,λa h=> ?_,λp h=> ?_,by simp only[bw];have:=M.le;omega⟩
   .rcases aI.1 h with rfl|h
    .exact .inr ai
    .rcases M.sub a h with h|h
     .exact .inl h
     .exact .inr (by simp[h])
   .exact dF _ (M.left a h)
   .rcases aI.1 h with rfl|h
    .exact⟨a,by simp,rfl, .inl rfl⟩
    .obtain⟨b,q,l,D⟩:=M.right a h;exact⟨b,dF _ q,l,D⟩
   .obtain⟨a,z,b,q,l⟩:=M.pair p h;exact⟨a,z,b,dF _ q,l⟩
def Oy:∀(k:Nat) (x y:List cB),x.length+y.length<=k->DK x->DK y->DK (mg x y).1
 |_,[],y,_,_,h=>by rw[F1];exact h
 |_,x::xs,[],_,h,_=>by rw[H9];exact h
 |0,x::xs,y::w,h,_,_=>by simp at h
 |k+1,x::xs,y::w,h,I,L=>by
  simp only[bw] at h;have l:=dO.1 I;have q:=dO.1 L;rcases yS x.bM y.bM with D|G|B
  .rw[ab1 _ _ D];refine dO.2 ⟨λa z=> ?_,Oy k xs (y::w) (by simp only[bw];omega) l.2 L⟩;rcases(G7 k xs (y::w) (by simp only[bw];omega)).sub a z with h|h
   .exact l.1 a h
   .rcases aI.1 h with rfl|h
    .exact D
    .have:=q.1 a h;omega
  .rw[abZ _ _ G];refine dO.2 ⟨λa z=> ?_,Oy k xs w af l.2 q.2⟩;rcases(G7 k xs w af).sub a z with h|h
   .exact l.1 a h
   .have:=q.1 a h;omega
  .rw[ab0 _ _ B];refine dO.2 ⟨λa z=> ?_,Oy k (x::xs) w (by simp only[bw];omega) I q.2⟩;rcases(G7 k (x::xs) w (by simp only[bw];omega)).sub a z with h|h
   .rcases aI.1 h with rfl|h
    .exact B
    .have:=l.1 a h;omega
   .exact q.1 a h
def Cm {q:Type} (x:q) (l:List q):((x::l).take (length (x::l))).drop (toNat (1:Int))=l:=by rw[gw];rfl
def BX {q R:Type} (x:q) (l:List q) (a:Option R):check (0<=(1:Int)/\(1:Int)<=(length (x::l):Nat)) a=a:=bU ⟨af,by simp only[bw];omega⟩ a
def jE {q R:Type} (x:q) (l:List q) (k:q->Option R):bB (x::l) 0 k=k x:=Jv af rfl k
def h486 {a:Nat} {TL:List fG} {FL:List cU} {N ty:List Int} {ar:List (List cB)} (V:a<ar.length):∀(k:Nat) (x y q:List cB) (z:List dL),x.length+y.length<=k->x.length+y.length+q.length<=1000000000->z.length+y.length<=1000000000->
  nZ (a:Int) x y q TL FL z N ty ar=some (true,z++(mg x y).2,N,ty,ar.set a (q++(mg x y).1)):=by
 intro k;induction k with
 |zero=>intro x y q z S _ _;have hx:x=[]:=nS.1 af;have hy:y=[]:=nS.1 af;subst hx;subst hy;refine abD ?_;rw[cond_neg (by rfl),cond_neg (by rfl),Y9 V,F1,dN,dN,aV]
 |succ k L=>
  intro x y q z S w D;refine abD ?_;have P:∀{Q:Type} (x:Q) (l:List Q),decide ((length (x::l):Int)>0)=true:=λx l=>by rw[bz,bw];omega
  have Z:∀{Q:Type} (x:Q) (l:List Q),((length (x::l):Int)==0)=false:=λx l=>by rw[jf,bw];omega
  cases x with
  |nil=>cases y with
   |nil=>rw[cond_neg (by rfl),cond_neg (by rfl),Y9 V,F1,dN,dN,aV]
   |cons y B=>
    simp only[bw,eS] at S w D
    rw[cond_neg (by rfl),cond_pos (P y B),cond_neg (Z y B),cond_neg (by rfl),cond_pos (by rfl),jE,cH _ af ai af,BX,Cm,
     L [] B (q++[y]) z aH aH af,F1,F1]
    simp
  |cons x xs=>cases y with
   |nil=>
    simp only[bw,eS] at S w D
    rw[cond_pos (P x xs),cond_pos (by rfl),jE,cH _ af ai af,BX,Cm,
     L xs [] (q++[x]) z aH aH aH,H9,H9]
    simp
   |cons y B=>
    simp only[bw] at S w D;rw[cond_pos (P x xs),cond_neg (Z y B),cond_pos (P x xs),jE,jE];rcases yS x.bM y.bM with I|U|G
    .rw[cond_pos (by rw[bz];exact I),jE,cH _ af ai af,BX,Cm,
      L xs (y::B) (q++[x]) z aH aH aH,ab1 _ _ I]
     simp
    .rw[cond_neg (by rw[aS];omega),cond_neg (Z x xs),jE,jE,cond_neg (by rw[aS];omega),jE,jE,cH _ af ai af,jE,cH _ af ai af,BX,BX,Cm,Cm,
      L xs B (q++[x]) _ af aH aH,abZ _ _ U]
     simp
    .rw[cond_neg (by rw[aS];omega),cond_neg (Z x xs),jE,jE,cond_pos (by rw[bz];exact G),jE,cH _ af ai af,BX,Cm,
      L (x::xs) B (q++[y]) z aH aH af,ab0 _ _ G]
     simp
