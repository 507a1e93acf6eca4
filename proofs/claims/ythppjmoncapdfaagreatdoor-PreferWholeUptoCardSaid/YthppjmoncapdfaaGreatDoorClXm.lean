/- Unify (the program's) is the least upper bound. -/
import Derived.Test.YthppjmoncapdfaaGreatDoorClXf
set_option linter.all false
open Go.IntKind (wrap)
open Int (toNat)
open List (length)
namespace Go.Proofs.YthppjmoncapdfaaGreatDoor.cl.pf
open Go Go.AM
def CN (k:Nat) (l:List cF):List cF:=l.map fun a=>⟨a.aY,a.To+k⟩
def ids (s k:Nat):List Int:=(List.range' s k).map fun (x:Nat)=>(x:Int)
theorem aar (s k:Nat):ids s (k+1)=(s:Int)::ids (s+1) k:=by simp [ids,uk]
theorem A9 (s k:Nat):(ids s k).length=k:=by simp [ids]
theorem MX (s k j:Nat):ids s k++ids (s+k) j=ids s (k+j):=by
 unfold ids;rw [←bT,List.range'_append_1]
theorem aaq {k x:Nat} (h:x<k):(ids 0 k).getD x 0=(x:Int):=by
 unfold ids;rw [aQ,cZ,List.getElem?_range' (by omega)];simp
section
variable {TL:List iy} {FL:List dH}
theorem h442_8 {fr:Nat} {l:List Node} {n v:Int} {Sy:List cF} {x:Node} {par ty:List Int} {ar:List (List cF)} {res:Unit×List Int×List Int×List (List cF)} (hf:fr≤1000000) (hl:Sy.length≤1000000) (hto:∀a∈Sy,0≤a.To∧a.To≤1000000) (har:ar.length≤100000000):
  ∀(xs:List cF) (i:Nat),Sy.drop i=xs→Kq fr l n (wrap .i64 (v+1)) TL FL par ty (ar++[CN fr Sy])=some res→
   OR fr l n v Sy (Sy.length:Int) (i:Int) x (CN fr (Sy.take i)) TL FL par ty ar=some res:=by
 intro xs
 induction xs with
 |nil=>
  intro i hd hr;refine abE ?_;rw [bI hd,aj,cz _ (by omega) (by simp) (by omega),jm (jU hd)];exact hr
 |cons a xs ih=>
  intro i hd hr;refine abE ?_;have ha:=hto a (aT (b9 hd));have hlt:=eo hd;rw [bH hd,ai,aX hd,cz _ (by unfold CN;rw [aW,gD];omega) (by simp) (by omega),bJ hd (by omega),kJ (by omega) (by omega)];have e:CN fr (Sy.take i)++[⟨a.aY,a.To+fr⟩]=CN fr (Sy.take (i+1)):=by
   rw [c8,b9 hd];simp [CN]
  rw [e];exact ih (i+1) (aN hd) hr
theorem h442_2 {fr:Nat} {l:List Node} (hf:fr+l.length≤1000000) (hl:∀x∈l,x.cO.length≤1000000∧∀a∈x.cO,0≤a.To∧a.To≤1000000):∀(xs:List Node) (i:Nat) (par ty:List Int) (ar:List (List cF)),l.drop i=xs→par.length≤fr+i→ty.length≤fr+i→ar.length≤fr+i→
  Kq (fr:Int) l (l.length:Int) (i:Int) TL FL par ty ar=some ((),par++ids (fr+i) xs.length,ty++xs.map (·.eN),ar++xs.map fun x=>CN fr x.cO):=by
 intro xs
 induction xs with
 |nil=>
  intro i par ty ar hd _ _ _;refine abD ?_;rw [bI hd,aj];simp [ids]
 |cons x xs ih=>
  intro i par ty ar hd h1 h2 h3;have hx:=hl x (aT (b9 hd));have hlt:=eo hd;refine abD ?_;rw [bH hd,ai,aX hd,cz _ (by omega) (by simp) (by omega),cz _ (by omega) (by simp) (by omega),kJ (by omega) (by omega)];refine h442_8 (by omega) hx.1 hx.2 (by omega) x.cO 0 rfl ?_;rw [bJ hd (by omega),ih (i+1) _ _ _ (aN hd) (by simp;omega) (by simp;omega) (by simp;omega),bg,aar];have e:(fr:Int)+(i:Int)=((fr+i:Nat):Int):=by omega
  rw [e];simp [kB]
theorem Zu {l:List Node} {par ty:List Int} {ar:List (List cF)} {fr:Nat} (hp:par.length=fr) (ht:ty.length=fr) (ha:ar.length=fr) (hf:fr+l.length≤1000000) (hl:∀x∈l,x.cO.length≤1000000∧∀a∈x.cO,0≤a.To∧a.To≤1000000):
  f442 l TL FL par ty ar=some ((),par++ids fr l.length,ty++l.map (·.eN),ar++l.map fun x=>CN fr x.cO):=by
 refine e442 ?_;rw [hp];exact h442_2 hf hl l 0 par ty ar rfl (by omega) (by omega) (by omega)
end
theorem JI.init {T n:Nat} {Q:List cF→Prop} {sb:Int→Int→Prop} {U:Gr} {par ty:List Int} {ar:List (List cF)} (hT:∀{a},0≤a→a<(T:Int)→sb a a) (hp:par=ids 0 n) (ht:ty.length=n) (ha:ar.length=n) (tr:∀x,x<n→0≤ty.getD x 0∧ty.getD x 0<(T:Int)) (ao:∀x,x<n→Q (ar.getD x []))
  (us:∀x,x<n→U.sc x=(ar.getD x []).map fun a=>(a.aY,a.To.toNat)) (ut:∀x,x<n→U.ty x=ty.getD x 0):JI T Q sb U n [] [] par ty ar id (fun _=>0):=by
 subst hp;refine ⟨⟨A9 _ _,fun x hx=>⟨x,hx,aaq hx,rfl, .inl rfl⟩,fun x hx=>by rw [aaq hx];simp,fun x hx=>hx,fun x _=>rfl⟩,ht,ha,tr,ao,(fun p hp=>by cases hp),fun x hx=> ?_,fun x hx p hp=> ?_,(fun p hp=>by cases hp),fun C m hC hs=>⟨fun x _=>rfl,fun x hx _=>⟨?_,fun a h=> ?_⟩,(fun p hp=>by cases hp)⟩⟩
 ·rw [ut x hx];exact hT (tr x hx).1 (tr x hx).2
 ·rw [us x hx] at hp
  obtain ⟨a,h,rfl⟩:=aB.1 hp;exact ⟨a,h,rfl, .Fg rfl⟩
 ·rw [←ut x hx];exact hs.ty x hx
 ·exact hs.ar x hx (a.aY,a.To.toNat) (by rw [us x hx];exact aB.2 ⟨a,h,rfl⟩)
theorem Can.ao {T F:Nat} {f:FSt} (h:Can T F f) {x:Node} (hx:x∈f.az):AO F (f.az.length) x.cO:=by
 obtain ⟨i,hi⟩:=iq.1 hx;have hil:i<f.az.length:=(bD.1 hi).1;have hxe:f.az[i]=x:=(bD.1 hi).2;have e:kX f i=Wu x:=by rw [yX hil,hxe]
 refine ⟨?_,fun a ha=> ?_⟩
 ·have:=h.Bo i
  rw [e] at this;unfold AU Wu at this;rw [iJ] at this;exact this
 ·have hm:(a.aY,a.To.toNat)∈kX f i:=by rw [e];exact aB.2 ⟨a,ha,rfl⟩
  have h1:=h.go.ft i hil _ hm;have h2:=h.bd i hil _ hm;have h3:=h.nn hx ha;exact ⟨h1,h3,by simp only at h2;omega⟩
theorem Can.tyr {T F:Nat} {f:FSt} (h:Can T F f) {x:Node} (hx:x∈f.az):0≤x.eN∧x.eN<(T:Int):=by
 obtain ⟨i,hi⟩:=iq.1 hx;have hil:i<f.az.length:=(bD.1 hi).1;have hxe:f.az[i]=x:=(bD.1 hi).2;have:=h.go.tp i hil;have e:(nY f).ty i=x.eN:=by show sg f i=_;rw [tZ hil,hxe]
 rwa [e] at this
theorem AO.sh {F n k N:Nat} {l:List cF} (h:AO F n l) (hN:n+k≤N):AO F N (CN k l):=by
 refine ⟨?_,fun a ha=> ?_⟩
 ·unfold EI CN
  rw [iJ];exact h.Bo
 ·obtain ⟨b,hb,rfl⟩:=aB.1 ha
  have:=h.ok b hb;exact ⟨this.1,by show 0≤b.To+(k:Int);omega,by show b.To+(k:Int)<(N:Int);omega⟩
theorem Wv {F n k:Nat} {l:List cF} (h:AO F n l):((CN k l).map fun a=>(a.aY,a.To.toNat))=(l.map fun a=>(a.aY,a.To.toNat)).map fun p=>(p.1,p.2+k):=by
 unfold CN;rw [eO,eO];refine ia fun a ha=> ?_
 have:=(h.ok a ha).2;show (a.aY,(a.To+(k:Int)).toNat)=(a.aY,a.To.toNat+k)
 congr 1
 omega
theorem jN {α β:Type} {l:List α} {g:α→β} {i:Nat} {d:β} (h:i<l.length):(l.map g).getD i d=g l[i]:=by
 rw [aQ,cZ,aH h];rfl
theorem Cg {α:Type} {l m:List α} {i:Nat} {d:α} (h:i<l.length):(l++m).getD i d=l.getD i d:=by
 rw [aQ,aQ,di h]
theorem Ch {α:Type} {l m:List α} {i:Nat} {d:α} (h:l.length≤i):(l++m).getD i d=m.getD (i-l.length) d:=by
 rw [aQ,aQ,gr h]
theorem Can.small {T F:Nat} {f:FSt} (h:Can T F f) (hn:f.az.length≤1000000) (hF:F≤1000000):∀x∈f.az,x.cO.length≤1000000∧∀a∈x.cO,0≤a.To∧a.To≤1000000:=fun x hx=>by
 have:=h.ao hx;exact ⟨dB this.len hF,fun a ha=>by have:=(this.ok a ha).2;omega⟩
section
variable {h:bZ} {T F:Nat} {sb:Int→Int→Prop} (H:HM h T sb) {A B:FSt} (hA:Can T F A) (hB:Can T F B) (hF:F≤400) (hn:A.az.length+B.az.length≤1000000)
include H hA hB hF hn
theorem Xe:JI T (AO F (A.az.length+B.az.length)) sb (tf A B) (A.az.length+B.az.length) [] [] (ids 0 (A.az.length)++ids (A.az.length) (B.az.length)) (A.az.map (·.eN)++B.az.map (·.eN)) ((A.az.map fun x=>CN 0 x.cO)++B.az.map fun x=>CN (A.az.length) x.cO) id (fun _=>0):=by
 have e0:ids 0 (A.az.length)++ids (A.az.length) (B.az.length)=ids 0 (A.az.length+B.az.length):=by
  have:=MX 0 (A.az.length) (B.az.length)
  rwa [gE] at this
 have He:∀x,(hx:x<A.az.length)→((A.az.map fun x=>CN 0 x.cO)++B.az.map fun x=>CN (A.az.length) x.cO).getD x []=CN 0 A.az[x].cO:=fun x hx=>by
  rw [Cg (by simpa using hx),jN hx]
 have hbt:∀x,(hx:x<A.az.length+B.az.length)→(hl:¬x<A.az.length)→((A.az.map fun x=>CN 0 x.cO)++B.az.map fun x=>CN (A.az.length) x.cO).getD x []=CN (A.az.length) (B.az[x-A.az.length]'(by omega)).cO:=fun x hx hl=>by
  rw [Ch (by simp;omega)];have:x-(A.az.map fun x=>CN 0 x.cO).length=x-A.az.length:=by simp
  rw [this,jN (by omega)]
 have hat2:∀x,(hx:x<A.az.length)→(A.az.map (·.eN)++B.az.map (·.eN)).getD x 0=A.az[x].eN:=fun x hx=>by
  rw [Cg (by simpa using hx),jN hx]
 have hbt2:∀x,(hx:x<A.az.length+B.az.length)→(hl:¬x<A.az.length)→(A.az.map (·.eN)++B.az.map (·.eN)).getD x 0=(B.az[x-A.az.length]'(by omega)).eN:=fun x hx hl=>by
  rw [Ch (by simp;omega)];have:x-(A.az.map (·.eN)).length=x-A.az.length:=by simp
  rw [this,jN (by omega)]
 refine JI.init H.to.refl e0 (by simp) (by simp) (fun x hx=> ?_) (fun x hx=> ?_) (fun x hx=> ?_) (fun x hx=> ?_)<;>by_cases hl:x<A.az.length
 ·rw [hat2 x hl];exact hA.tyr (bF hl)
 ·rw [hbt2 x hx hl];exact hB.tyr (bF _)
 ·rw [He x hl];exact (hA.ao (bF hl)).sh (by omega)
 ·rw [hbt x hx hl];exact (hB.ao (bF _)).sh (by omega)
 ·rw [He x hl,Wv (hA.ao (bF hl)),(EO hl).1,yX hl]
  exact (j8 _).symm
 ·rw [hbt x hx hl,Wv (hB.ao (bF _)),(ER hl).1,yX (by omega)]
  rfl
 ·rw [hat2 x hl,(EO hl).2,tZ hl]
 ·rw [hbt2 x hx hl,(ER hl).2,tZ (by omega)]
theorem c433:(∃f,f433 h A B=some (f,true)∧Lub T F sb A B f)∨(f433 h A B=some (⟨[]⟩,false)∧∀C,Can T F C→Le sb A C→Le sb B C→False):=by
 have a1:f442 A.az h.Types h.de [] [] []=some ((),ids 0 (A.az.length),A.az.map (·.eN),A.az.map fun x=>CN 0 x.cO):=by
  rw [Zu (fr:=0) rfl rfl rfl (by omega) (hA.small (by omega) (by omega))];simp
 have a2:f442 B.az h.Types h.de (ids 0 (A.az.length)) (A.az.map (·.eN)) (A.az.map fun x=>CN 0 x.cO)=some ((),ids 0 (A.az.length)++ids (A.az.length) (B.az.length),A.az.map (·.eN)++B.az.map (·.eN),(A.az.map fun x=>CN 0 x.cO)++B.az.map fun x=>CN (A.az.length) x.cO):=
  Zu (fr:=A.az.length) (A9 _ _) (by simp) (by simp) hn (hB.small (by omega) (by omega))
 have hnF:(A.az.length+B.az.length) *F≤400000000:=by
  have:=Nat.mul_le_mul hn hF;omega
 have h0:0<A.az.length+B.az.length:=by have:=hA.ne;omega
 have hl0:A.az.length<A.az.length+B.az.length:=by have:=hB.ne;omega
 rcases c443 H (by omega) h0 hl0 hnF (Xe H hA hB hF hn) with ⟨par,ty,ar,rep,d,j1,J⟩|⟨⟨par,ty,ar,j1⟩,hno⟩
 ·obtain ⟨par',g⟩:=c444 (TL:=h.Types) (FL:=h.de) (d:=d) J.la J.lt J.ao J.pi.rl J.pi.rr (by omega) hn h0 J.pi
  refine .inl ⟨_,e433 ?_,Zq H.to hA hB (J.uni (both_go hA hB).bd)⟩;rw [a1,gG,a2,gG];have e:(0:Int)=((0:Nat):Int):=rfl;rw [e,j1,gG,cond_neg (by rfl),g,gG]
 ·refine .inr ⟨e433 ?_,fun C hC h1 h2=> ?_⟩
  ·rw [a1,gG,a2,gG]
   have e:(0:Int)=((0:Nat):Int):=rfl;rw [e,j1,gG,cond_pos (by rfl)]
  ·obtain ⟨m,_,hs⟩:=Pt hA hB hC h1 h2
   exact hno (nY C) m hC.Lp hs
end
end Go.Proofs.YthppjmoncapdfaaGreatDoor.cl.pf
namespace Go.Proofs.YthppjmoncapdfaaGreatDoor.cl.pf
open Go Go.AM
def sD (x:cF):List cF→List cF
 |[]=>[x]
 |y::l=>if y.aY≤x.aY then y::sD x l else x::y::l
def G0 (l:List cF):List cF:=l.foldl (fun o x=>sD x o) []
def Md (l:List cF):Prop:=l.Pairwise fun a b=>a.aY≤b.aY
theorem Ja {x a:cF}:∀{l:List cF},a∈sD x l↔a=x∨a∈l
 |[]=>by simp [sD]
 |y::l=>by
  unfold sD;split
  ·rw [aD,Ja,aD]
   constructor
   ·rintro (h|h|h)
    ·exact .inr (.inl h)
    ·exact .inl h
    ·exact .inr (.inr h)
   ·rintro (h|h|h)
    ·exact .inr (.inl h)
    ·exact .inl h
    ·exact .inr (.inr h)
  ·simp
theorem I9 {x:cF}:∀{l:List cF},(sD x l).length=l.length+1
 |[]=>rfl
 |y::l=>by unfold sD;split<;>simp [I9]
theorem Jb {x:cF}:∀{l:List cF},Md l→Md (sD x l)
 |[],_=>Dg _ _
 |y::l,h=>by
  have h':=dX.1 h;unfold sD;split
  ·rename_i hle
   refine dX.2 ⟨fun a ha=> ?_,Jb h'.2⟩;rcases Ja.1 ha with rfl|ha
   ·exact hle
   ·exact h'.1 a ha
  ·rename_i hgt
   refine dX.2 ⟨fun a ha=> ?_,h⟩;rcases aD.1 ha with rfl|ha
   ·omega
   ·have:=h'.1 a ha;omega
theorem I8 {x:cF} {w:List cF} (hw:∀a∈w,x.aY<a.aY):∀{u:List cF},(∀a∈u,a.aY≤x.aY)→sD x (u++w)=u++[x]++w
 |[],_=>by
  cases w with
  |nil=>rfl
  |cons y w=>
   show sD x (y::w)=_;unfold sD;rw [ak (by have:=hw y (by simp);omega)];rfl
 |y::u,hu=>by
  show sD x (y::(u++w))=_;unfold sD;rw [au (hu y (by simp)),I8 hw fun a ha=>hu a (by simp [ha])];rfl
theorem sY:∀(l:List cF),Md (G0 l)∧(G0 l).length=l.length∧∀a,a∈G0 l↔a∈l:=by
 intro l;unfold G0;have key:∀(l o:List cF),Md o→Md (l.foldl (fun o x=>sD x o) o)∧(l.foldl (fun o x=>sD x o) o).length=o.length+l.length∧∀a,a∈l.foldl (fun o x=>sD x o) o↔a∈o∨a∈l:=by
  intro l
  induction l with
  |nil=>intro o h;exact ⟨h,rfl,fun a=>by simp⟩
  |cons x l ih=>
   intro o h;obtain ⟨h1,h2,h3⟩:=ih (sD x o) (Jb h);refine ⟨h1,by rw [fR,h2,I9,bg];omega,fun a=> ?_⟩;rw [fR,h3 a,Ja,aD];constructor
   ·rintro ((h|h)|h)
    ·exact .inr (.inl h)
    ·exact .inl h
    ·exact .inr (.inr h)
   ·rintro (h|h|h)
    ·exact .inl (.inr h)
    ·exact .inl (.inl h)
    ·exact .inr h
 have:=key l [] List.Pairwise.nil;exact ⟨this.1,by simpa using this.2.1,fun a=>by simpa using this.2.2 a⟩
theorem srt_id {l:List cF} (h:EI l):G0 l=l:=by
 have key:∀(l o:List cF),EI (o++l)→l.foldl (fun o x=>sD x o) o=o++l:=by
  intro l
  induction l with
  |nil=>intro o _;simp
  |cons x l ih=>
   intro o h;have e:sD x o=o++[x]:=by
    have:=I8 (x:=x) (w:=[]) (fun a ha=>by cases ha) (u:=o) (fun a ha=>by
     unfold EI at h;rw [ri] at h
     have:=h.2.2 a ha x (by simp);omega)
    simpa using this
   rw [fR,e,ih (o++[x]) (by simpa using h)];simp
 exact key l [] (by simpa using h)
theorem Wx {l:List cF} (h:(l.map (·.aY)).Nodup):EI (G0 l):=by
 obtain ⟨h1,_,h3⟩:=sY l;have hp:((G0 l).map (·.aY)).Nodup:=by
  unfold G0;have key:∀(l o:List cF),((o++l).map (·.aY)).Nodup→((l.foldl (fun o x=>sD x o) o).map (·.aY)).Nodup:=by
   intro l
   induction l with
   |nil=>intro o h;simpa using h
   |cons x l ih=>
    intro o h;rw [fR];refine ih _ ?_;have hins:∀o:List cF,((sD x o).map (·.aY)).Perm ((o++[x]).map (·.aY)):=by
     intro o
     induction o with
     |nil=>exact List.Perm.refl _
     |cons y o ih2=>
      unfold sD;split
      ·simp only [aP,ff];exact List.Perm.cons _ ih2
      ·simp only [aP,ff]
       have:((y::o)++[x]).map (fun a:cF=>a.aY)=(y::o).map (fun a:cF=>a.aY)++[x.aY]:=by simp
       simp only [aP,ff] at this;rw [this];exact (List.perm_append_singleton x.aY (y.aY::o.map fun a=>a.aY)).symm
    have:((o++x::l).map (·.aY))=(o++[x]).map (·.aY)++l.map (·.aY):=by simp
    rw [this] at h;rw [bT];exact ((hins o).append_right _).nodup_iff.2 h
  exact key l [] (by simpa using h)
 unfold EI;unfold Md at h1;unfold List.Nodup at hp;rw [iJ] at hp;exact (h1.and hp).imp fun {a b} h=>by have:=h.1;have:=h.2;omega
theorem h463_6 {l:List cF} {i:Nat} {x:cF} {res:List cF} (hx:l[i]? =some x) (hl:l.length≤1000000) {o:List cF} (ho:o.length≤1000000) (hs:Md o)
  (hr:y5 l ((i+1:Nat):Int) (sD x o)=some res):∀(v:Nat),v≤o.length→(∀a∈o.drop v,x.aY<a.aY)→HK l (i:Int) (v:Int) o=some res:=by
 have hi:i<l.length:=(bD.1 hx).1;have fin:∀(v:Nat),v≤o.length→(∀a∈o.drop v,x.aY<a.aY)→(∀a∈o.take v,a.aY≤x.aY)→
   check (0≤(v:Int)∧(v:Int)≤((o.length:Nat):Int)) (
   check ((length ([]:List cF)+length ((o.take (toNat (v:Int))).drop 0)) *16≤140737488355328∧length ([]:List cF)+length ((o.take (toNat (v:Int))).drop 0)≤4611686018427387904) (
   bw l (i:Int) fun gl=>
   check ((length (([]:List cF)++((o.take (toNat (v:Int))).drop 0))+length [gl]) *16≤140737488355328∧length (([]:List cF)++((o.take (toNat (v:Int))).drop 0))+length [gl]≤4611686018427387904) (
   check (0≤(v:Int)∧(v:Int)≤((o.length:Nat):Int)) (
   check ((length ((([]:List cF)++((o.take (toNat (v:Int))).drop 0))++[gl])+length ((o.take (length o)).drop (toNat (v:Int)))) *16≤140737488355328∧length ((([]:List cF)++((o.take (toNat (v:Int))).drop 0))++[gl])+length ((o.take (length o)).drop (toNat (v:Int)))≤4611686018427387904) (
   y5 l (wrap .i64 ((i:Int)+1)) (((([]:List cF)++((o.take (toNat (v:Int))).drop 0))++[gl])++((o.take (length o)).drop (toNat (v:Int)))))))))=some res:=by
  intro v hv h1 h2;have e:(o.take v++[x])++o.drop v=sD x o:=by
   have:=I8 (x:=x) h1 h2;rw [kj] at this;exact this.symm
  rw [bp ⟨by omega,by omega⟩,aR,yd,cz _ (by simp) (by rw [gD];omega) (by omega),gW hx,dU,cz _ (by rw [gD];omega) (by simp) (by omega),bp ⟨by omega,by omega⟩,gw,cz _ (by simp;omega) (by simp;omega) (by omega),e,bG (by omega)];exact hr
 intro v
 induction v with
 |zero=>
  intro hv h1;refine VW ?_;rw [cond_neg (by rfl)];exact fin 0 hv h1 (fun a ha=>by cases ha)
 |succ v ih=>
  intro hv h1;refine VW ?_;have hvl:v<o.length:=hv;rw [cond_pos (by rw [bB];omega),xF (by omega),DB hvl,aR,MK hvl,gW hx];by_cases hc:x.aY<o[v].aY
  ·rw [cond_pos (by rw [bB];exact hc)]
   refine ih (by omega) fun a ha=> ?_
   rw [um hvl] at ha;rcases aD.1 ha with rfl|ha
   ·exact hc
   ·exact h1 a ha
  ·rw [cond_neg (by rw [bA];exact hc)]
   refine fin (v+1) hv h1 fun a ha=> ?_
   rw [c8,aH hvl] at ha;unfold Md at hs;rcases bC.1 ha with ha|ha
   ·obtain ⟨j,hj⟩:=iq.1 ha
    rw [oB] at hj;split at hj
    ·rename_i hjv
     have hjl:j<o.length:=by omega
     rw [aH hjl] at hj;cases hj;have:=lK.1 hs j v hjl hvl hjv;omega
    ·cases hj
   ·simp at ha;subst ha;omega
theorem h463 {l:List cF} (hl:l.length≤1000000):∀(xs:List cF) (i:Nat) (o:List cF),l.drop i=xs→Md o→o.length≤i→y5 l (i:Int) o=some (xs.foldl (fun o x=>sD x o) o):=by
 intro xs
 induction xs with
 |nil=>
  intro i o hd _ _;refine VV ?_;rw [bI hd,aj];rfl
 |cons x xs ih=>
  intro i o hd hs ho;have hlt:=eo hd;refine VV ?_;rw [bH hd,ai];refine h463_6 (b9 hd) hl (by omega) hs ?_ o.length (aS _) (fun a ha=>by rw [List.drop_length] at ha;cases ha);exact ih (i+1) (sD x o) (aN hd) (Jb hs) (by rw [I9];omega)
theorem c463 {l:List cF} (hl:l.length≤1000000):f463 l=some (G0 l):=e463 (h463 hl l 0 [] rfl List.Pairwise.nil (aS _))
def Gx (f:FSt) (n:Nat):List (Int×Nat):=match f.az[n]? with
 |some x=>(G0 x.cO).map fun a=>(a.aY,a.To.toNat)
 |none=>[]
def Fq (f:FSt):Gr:=⟨Gx f,sg f⟩
def Sf (f:FSt):Prop:=∀x∈f.az,x.cO.length≤1000000∧∀a∈x.cO,0≤a.To∧a.To<(f.az.length:Int)
theorem AH {f:FSt} {n:Nat} (h:n<f.az.length):Gx f n=(G0 f.az[n].cO).map fun a=>(a.aY,a.To.toNat):=by
 unfold Gx;rw [aH h]
theorem NY {f:FSt} (h:Sf f):Bd (Fq f).sc f.az.length:=fun n hn p hp=>by
 have hp:p∈Gx f n:=hp;rw [AH hn] at hp;obtain ⟨a,ha,rfl⟩:=aB.1 hp;have:=(h _ (bF hn)).2 a ((sY _).2.2 a|>.1 ha);show a.To.toNat<_;omega
def yP (o:List Nat):List Int:=o.map fun (x:Nat)=>(x:Int)
section
variable {f:FSt} (hf:Sf f) (hn:f.az.length≤1000000)
include hf hn
theorem h455_4 {k:Nat} (ih:∀(x:Nat) (o:List Nat) (num:List Int),x<f.az.length→x∉o→NO f.az.length num o→Met f.az.length o→f.az.length<k+o.length→
   ∃num',f455 (x:Int) f.az num (yP o)=some ((),num',yP (qw (Gx f) k x o))∧NO f.az.length num' (qw (Gx f) k x o)) {Sy:List cF} (has:Sy.length≤1000000) (hto:∀a∈Sy,0≤a.To∧a.To<(f.az.length:Int)):
  ∀(xs:List cF) (i:Nat) (o:List Nat) (num:List Int),Sy.drop i=xs→NO f.az.length num o→Met f.az.length o→f.az.length<k+o.length→
   ∃num',Kt Sy (i:Int) f.az num (yP o)=some ((),num',yP (tI (Gx f) k (xs.map fun a=>(a.aY,a.To.toNat)) o))∧NO f.az.length num' (tI (Gx f) k (xs.map fun a=>(a.aY,a.To.toNat)) o):=by
 intro xs
 induction xs with
 |nil=>
  intro i o num hd hN _ _;refine ⟨num,TK ?_,hN⟩;rw [bI hd,aj];rfl
 |cons a xs ih2=>
  intro i o num hd hN hM hk;have ha:=hto a (aT (b9 hd));obtain ⟨x,hx⟩:=je ha.1;have YS:x<f.az.length:=by omega
  have hxt:a.To.toNat=x:=by omega
  have hlt:=eo hd;have hnl:x<num.length:=by rw [hN.len];exact YS
  simp only [aP,tI,fR,hxt];by_cases hm:x∈o
  ·have ev:qw (Gx f) k x o=o:=by
    cases k with
    |zero=>rfl
    |succ k=>rw [qw,au hm]
   rw [ev];obtain ⟨num',g1,g2⟩:=ih2 (i+1) o num (aN hd) hN hM hk;refine ⟨num',TK ?_,g2⟩;rw [bH hd,ai,aX hd,hx,CM hnl,hN.at_ x YS,au hm,cond_neg (by rw [bA];omega),bJ hd (by omega)];exact g1
  ·obtain ⟨num1,f1,N1⟩:=ih x o num YS hm hN hM hk
   have hM2:=Bn (NY hf) k x o hM YS;have hlen:=O1 (sc:=Gx f) k x o;obtain ⟨num',g1,g2⟩:=ih2 (i+1) _ num1 (aN hd) N1 hM2 (by omega);refine ⟨num',TK ?_,g2⟩;rw [bH hd,ai,aX hd,hx,CM hnl,hN.at_ x YS,ak hm,cond_pos (by rfl),aX hd,hx,f1,Il,bJ hd (by omega)];exact g1
theorem h455:∀(k x:Nat) (o:List Nat) (num:List Int),x<f.az.length→x∉o→NO f.az.length num o→Met f.az.length o→f.az.length<k+o.length→
  ∃num',f455 (x:Int) f.az num (yP o)=some ((),num',yP (qw (Gx f) k x o))∧NO f.az.length num' (qw (Gx f) k x o):=by
 intro k
 induction k with
 |zero=>intro x o num _ _ _ hM hk;have:=zk hM.nd hM.lt;omega
 |succ k ih=>
  intro x o num hx F4 hN hM hk;have hnl:x<num.length:=by rw [hN.len];exact hx
  have hol:=zk hM.nd hM.lt;obtain ⟨hal,hto⟩:=hf _ (bF hx);obtain ⟨s1,s2,s3⟩:=sY f.az[x].cO;obtain ⟨num',g1,g2⟩:=h455_4 hf hn ih (Sy:=G0 f.az[x].cO) (by rw [s2];exact hal) (fun a ha=>hto a ((s3 a).1 ha)) (G0 f.az[x].cO) 0 (o++[x]) (num.set x (o.length:Int)) rfl (hN.snoc hx F4) (hM.snoc hx F4) (by simp only [cQ,ij];omega);have ev:qw (Gx f) (k+1) x o=tI (Gx f) k ((G0 f.az[x].cO).map fun a=>(a.aY,a.To.toNat)) (o++[x]):=by rw [qw,ak F4,AH hx]
  rw [ev];refine ⟨num',e455 ?_,g2⟩;rw [CM hnl,cz _ (by unfold yP;rw [aW];omega) (by simp) (by omega),cn hx,c463 hal,aA,aR];have e:yP o++[(x:Int)]=yP (o++[x]):=by simp [yP]
  have e2:((yP o).length:Int)=(o.length:Int):=by simp [yP]
  rw [e,e2];exact g1
theorem h436_14 {i:Nat} {o2 o4:FSt} {x:Node} {nd o52 nR:List Node} {num ordr:List Int} {o:List Nat} (hN:NO f.az.length num o) (h52:o52.length≤1000000) {res:FSt}:∀(xs done:List cF),done.length+xs.length≤1000000→(∀a∈xs,0≤a.To∧a.To<(f.az.length:Int)∧a.To.toNat∈o)→
  Fw (wrap .i64 ((i:Int)+1)) o2 o4 nd (o52++[⟨x.eN,done++xs.map fun a=>⟨a.aY,(o.idxOf a.To.toNat:Nat)⟩⟩]) nR num ordr=some res→
  Ev (i:Int) (done.length:Int) o2 o4 x nd (done++xs) o52 nR num ordr=some res:=by
 intro xs
 induction xs with
 |nil=>
  intro done hl _ hr;refine QC ?_;rw [cond_neg (by rw [bA];simp),cz _ (by omega) (by simp) (by omega),eU];rw [dV,eU] at hr;exact hr
 |cons a xs ih=>
  intro done hl hto hr;simp only [bg] at hl;obtain ⟨h1,h2,h3⟩:=hto a (by simp);obtain ⟨y,hy⟩:=je h1;have hyn:y<f.az.length:=by omega
  have hyt:a.To.toNat=y:=by omega
  rw [hyt] at h3;have hg:∀{R:Type} (k:cF→Option R),gj (done++a::xs) done.length k=k a:=fun k=>iD (by simp) k
  refine QC ?_;rw [cond_pos (by rw [bB];simp;omega),DB (by simp),aR,hg,hy,CM (by rw [hN.len];exact hyn),hN.at_ y hyn,au h3,bp ⟨by omega,by simp⟩,hg,bG (by omega),qY _ _ (aS _),oZ,yg]
  have:=ih (done++[⟨a.aY,(o.idxOf y:Nat)⟩]) (by simp;omega) (fun b hb=>hto b (by simp [hb])) (by
   rw [aP,hyt] at hr
   rw [fe];exact hr)
  rw [cQ,ij,fe] at this;exact this
theorem h436_9 {o4:FSt} {nd nR:List Node} {num:List Int} {o:List Nat} (hN:NO f.az.length num o) (hM:Met f.az.length o) (GR:∀y∈o,∀p∈Gx f y,p.2∈o):
  ∀(xs:List Nat) (i:Nat) (o52:List Node),o.drop i=xs→o52.length≤i→Fw (i:Int) f o4 nd o52 nR num (yP o)=some ⟨o52++xs.map (Nl (Fq f) o)⟩:=by
 have hol:=zk hM.nd hM.lt;intro xs
 induction xs with
 |nil=>
  intro i o52 hd _;refine abC ?_;have hge:=jU hd;rw [cond_neg (by rw [bA];simp [yP];omega)];simp
 |cons y xs ih=>
  intro i o52 hd h52;have hlt:=eo hd;have hym:y∈o:=aT (b9 hd);have hy:=hM.lt y hym;obtain ⟨hal,hto⟩:=hf _ (bF hy);obtain ⟨s1,s2,s3⟩:=sY f.az[y].cO;have hil:i<(yP o).length:=by simp [yP];exact hlt
  have hgd:(yP o).getD i 0=(y:Int):=by
   unfold yP;rw [jN hlt];have:=b9 hd;rw [aH hlt] at this;rw [eS this]
  refine abC ?_;rw [cond_pos (by rw [bB];omega),CM hil,hgd,cn hy,c463 hal,aA];have e0:((([]:List cF).length:Nat):Int)=0:=rfl;refine h436_14 hf hn hN (by omega) (G0 f.az[y].cO) [] (by simp;omega) (fun a ha=> ?_) ?_
  ·have h1:=hto a ((s3 a).1 ha)
   refine ⟨h1.1,h1.2,GR y hym (a.aY,a.To.toNat) ?_⟩;rw [AH hy];exact aB.2 ⟨a,ha,rfl⟩
  ·rw [bJ hd (by omega),ih (i+1) _ (aN hd) (by simp;omega)]
   have e:Nl (Fq f) o y=⟨f.az[y].eN,[]++(G0 f.az[y].cO).map fun a=>⟨a.aY,(o.idxOf a.To.toNat:Nat)⟩⟩:=by
    show (⟨sg f y,(Gx f y).map _⟩:Node)=_;rw [tZ hy,AH hy,eO];rfl
   rw [aP,e,fe];rfl
theorem h436_3 {root:Nat} {o4:FSt} {nd nR:List Node} {res:FSt} (hr:(Pq (f455 (root:Int) nd (List.replicate f.az.length (-1)) []) fun cI R4 Lf=>Fw 0 f o4 nd ([]:List Node) nR R4 Lf)=some res):
  ∀(k i:Nat),f.az.length=i+k→OQ (root:Int) (i:Int) f o4 nd nR (List.replicate i (-1)) []=some res:=by
 intro k
 induction k with
 |zero=>
  intro i hi;refine abB ?_;have e:i=f.az.length:=by omega
  subst e;rw [cond_neg (by rw [bA];omega)];exact hr
 |succ k ih=>
  intro i hi;refine abB ?_;rw [cond_pos (by rw [bB];omega),cz _ (by simp;omega) (by simp) (by omega),bG (by omega),←pE];exact ih (i+1) (by omega)
theorem c436 {root:Nat} (hr:root<f.az.length):f436 f (root:Int)=some (mI (Fq f) f.az.length root):=by
 have hN:NO f.az.length (List.replicate f.az.length (-1)) []:=⟨by simp,fun x hx=>by
  rw [ak (by simp),aQ,jD,au hx];rfl⟩
 obtain ⟨num',f1,N1⟩:=h455 hf hn (f.az.length+1) root [] _ hr (by simp) hN Met.nil (by simp);have hB:=NY hf;refine e436 ?_;refine h436_3 hf hn ?_ f.az.length 0 (by omega);have:yP ([]:List Nat)=[]:=rfl;rw [this] at f1;rw [f1,Il];have g:=h436_9 hf hn (o4:=⟨[]⟩) (nd:=f.az) (nR:=[]) N1 (uG (G:=Fq f) hB hr) (fun y hy p hp=>Aj (G:=Fq f) hB hr hy hp) _ 0 [] rfl (aS _);exact g
end
end Go.Proofs.YthppjmoncapdfaaGreatDoor.cl.pf
namespace Go.Proofs.YthppjmoncapdfaaGreatDoor.cl.pf
open Go Go.AM
def shN (k:Nat) (x:Node):Node:=⟨x.eN,CN k x.cO⟩
structure AW (F n:Nat) (l:List cF):Prop where
 nd:(l.map (·.aY)).Nodup
 ok:∀a∈l,(0≤a.aY∧a.aY<(F:Int))∧0≤a.To∧a.To<(n:Int)
theorem EI.nd {l:List cF} (h:EI l):(l.map (·.aY)).Nodup:=by
 unfold List.Nodup;rw [iJ];exact h.imp fun h=>by omega
theorem AW.G0 {F n:Nat} {l:List cF} (h:AW F n l):AO F n (G0 l):=⟨Wx h.nd,fun a ha=>h.ok a ((sY l).2.2 a|>.1 ha)⟩
theorem AW.len {F n:Nat} {l:List cF} (h:AW F n l):l.length≤F:=by
 have:=h.G0.len
 rwa [(sY l).2.1] at this
def fa (l:List cF) (f:Int):Option cF:=l.find? fun a=>a.aY==f
theorem Mz {l:List cF} {f:Int} {a:cF} (h:fa l f=some a):a∈l∧a.aY=f:=by
 have h1:=oV h;have h2:=oW h;exact ⟨h1,by simpa using h2⟩
theorem Vn {l:List cF} {f:Int} (h:fa l f=none):∀a∈l,a.aY≠f:=fun a ha e=>by
 have:=uj.1 h a ha;simp [e] at this
def lG (l:List Node):Gr:=⟨fun x=>((l.map (·.cO)).getD x []).map fun a=>(a.aY,a.To.toNat),fun x=>(l.map (·.eN)).getD x 0⟩
end Go.Proofs.YthppjmoncapdfaaGreatDoor.cl.pf
namespace Go.Proofs.YthppjmoncapdfaaGreatDoor.cl.pf
open Go Go.AM
section
variable {h:bZ} {T:Nat} {sb:Int→Int→Prop} (H:HM h T sb) {l:List Node} (hn:l.length≤1000000) (htl:∀x∈l,0≤x.eN∧x.eN<(T:Int)) (hT0:0<T)
variable {cl:List Int} {rep:Nat→Nat} (GR:cl.length=l.length) (hc:∀x,x<l.length→cl.getD x 0=(rep x:Nat)) (rl:∀x,x<l.length→rep x<l.length) (rr:∀x,x<l.length→rep (rep x)=rep x)
theorem lG_ty {x:Nat} (hx:x<l.length):(lG l).ty x=l[x].eN:=jN hx
theorem VY {x:Nat} (hx:x<l.length):(lG l).sc x=l[x].cO.map fun a=>(a.aY,a.To.toNat):=by
 show List.map _ (List.getD _ _ _)=_;rw [jN hx]
include H hn htl GR hc rl rr
end
section
variable {l:List Node} {F:Nat} (hn:l.length≤1000000) (hF:F≤1000000) (hA:∀x∈l,AW F l.length x.cO)
variable {cl:List Int} {rep:Nat→Nat} (GR:cl.length=l.length) (hc:∀x,x<l.length→cl.getD x 0=(rep x:Nat)) (rl:∀x,x<l.length→rep x<l.length)
theorem H8 {r6:Node→List cF→Node}:∀(xs:List Node) (ys:List (List cF)),xs.length=ys.length→Bt r6 xs (ys.map some)=some (List.zipWith r6 xs ys)
 |[],[],_=>rfl
 |x::xs,y::ys,h=>by
  have:=H8 (r6:=r6) xs ys (by simpa using h);simp only [aP,Bt,this,cS,List.zipWith_cons_cons]
 |[],y::ys,h=>by simp at h
 |x::xs,[],h=>by simp at h
theorem W6 {R:Type} {r6:Node→List cF→Node} {xs:List Node} {ys:List (List cF)} (h:xs.length=ys.length) (k:List Node→Option R):W5 r6 xs (ys.map some) k=k (List.zipWith r6 xs ys):=by
 unfold W5;rw [H8 xs ys h]
theorem LN {R:Type} {ys:List (List cF)} {i:Nat} (h:i<ys.length) (k:List cF→List (Option (List cF))→Option R):Ul (ys.map some) i k=k (ys.getD i []) ((ys.map some).set i none):=by
 unfold Ul;rw [cZ,aH h,aQ,aH h];rfl
abbrev updA:Node→List cF→Node:=fun x z=>{ x with cO:=z }
include hn hF hA GR hc rl
end
end Go.Proofs.YthppjmoncapdfaaGreatDoor.cl.pf
namespace Go.Proofs.YthppjmoncapdfaaGreatDoor.cl.pf
open Go Go.AM
theorem XT {N k:Nat} (h:k<N):(List.range N).idxOf k=k:=vc List.nodup_range (oU h)
theorem IA {T F:Nat} {g:FSt} (h0:0<g.az.length) (hg:GO T F (nY g) g.az.length) (hn:∀x∈g.az,∀a∈x.cO,0≤a.To) (ho:j4 (nY g) g.az.length 0=List.range g.az.length):Can T F g:=by
 refine ⟨h0,hg,?_⟩;obtain ⟨l⟩:=g;unfold mI;rw [ho]
 congr 1
 apply kE;intro i;rw [cZ];by_cases hi:i<l.length
 ·rw [oU hi,aH hi]
  show some l[i]=some _
  congr 1
  have e1:sg ⟨l⟩ i=l[i].eN:=tZ hi;have e2:kX ⟨l⟩ i=Wu l[i]:=yX hi;show l[i]=(⟨sg ⟨l⟩ i,(kX ⟨l⟩ i).map _⟩:Node)
  rw [e1,e2];unfold Wu;rw [eO];have:l[i].cO=l[i].cO.map ((fun p:Int×Nat=>(⟨p.1,((List.range l.length).idxOf p.2:Nat)⟩:cF))∘fun a=>(a.aY,a.To.toNat)):=by
   conv=>lhs;rw [←j8 l[i].cO]
   refine ia fun a ha=> ?_
   have h1:=hn _ (bF hi) a ha;have h2:a.To.toNat<l.length:=hg.bd i hi (a.aY,a.To.toNat) (by show _∈kX _ _;rw [e2];exact aB.2 ⟨a,ha,rfl⟩);show a=⟨a.aY,(((List.range l.length).idxOf a.To.toNat:Nat):Int)⟩
   rw [XT h2];obtain ⟨x,y⟩:=a;simp only at h1⊢
   congr 1
   omega
  exact aI (Node.mk _) this
 ·rw [fc (by simpa using hi),fc (by simpa using hi)];rfl
def LV (f:FSt) (tl:List Int):FSt:=⟨List.zipWith (fun x t=>⟨t,x.cO⟩) f.az tl⟩
section
variable {f:FSt} {tl:List Int} (hl:tl.length=f.az.length)
include hl
theorem Eg:(LV f tl).az.length=f.az.length:=by show (List.zipWith _ _ _).length=_;rw [List.length_zipWith];omega
theorem NT {i:Nat} (hi:i<f.az.length):(LV f tl).az[i]? =some ⟨tl.getD i 0,f.az[i].cO⟩:=by
 show (List.zipWith _ _ _)[i]? =_;rw [Dh,aH hi,aH (by omega:i<tl.length),aQ,aH (by omega:i<tl.length)];rfl
theorem NU:kX (LV f tl)=kX f:=by
 funext i
 by_cases hi:i<f.az.length
 ·unfold kX;rw [NT hl hi,aH hi];rfl
 ·rw [Hy (f:=LV f tl) (n:=i) (by rw [Eg hl];omega),Hy (f:=f) (n:=i) (by omega)]
theorem Uy {i:Nat} (hi:i<f.az.length):sg (LV f tl) i=tl.getD i 0:=by
 unfold sg;rw [NT hl hi]
theorem Can.LV {T F:Nat} (h:Can T F f) {T':Nat} (ht:∀i,i<f.az.length→0≤tl.getD i 0∧tl.getD i 0<(T':Int)):Can T' F (LV f tl):=by
 have hN:=Eg hl;have hs:=NU hl;refine IA (by rw [hN];exact h.ne) ?_ ?_ ?_
 ·rw [hN]
  refine ⟨?_,?_,?_,fun i hi=> ?_⟩
  ·show Bd (kX _) _;rw [hs];exact h.go.bd
  ·show∀n,n<_→AU (kX _ n);rw [hs];exact h.go.Bo
  ·show∀n,n<_→∀p∈kX _ n,_;rw [hs];exact h.go.ft
  ·show 0≤sg _ i∧sg _ i<_;rw [Uy hl hi];exact ht i hi
 ·intro x hx a ha
  obtain ⟨i,hi⟩:=iq.1 hx;have hil:i<f.az.length:=by have:=(bD.1 hi).1;rwa [hN] at this
  rw [NT hl hil] at hi;cases hi;exact h.nn (bF hil) ha
 ·rw [hN]
  have:j4 (nY (cl.pf.LV f tl)) f.az.length 0=j4 (nY f) f.az.length 0:=by
   show qw (kX _) _ _ _=qw (kX f) _ _ _;rw [hs]
  rw [this,h.ord]
end
structure HV (h:bZ) (T F:Nat) (sb:Int→Int→Prop) (wD:Int→Int) (val:Int→Int→Int):Prop where
 hm:HM h T sb
 fl:h.de.length=F
 int:∀f:Int,0≤f→f<(F:Int)→(h.de.getD f.toNat default).Intro=wD f∧0≤wD f∧wD f<(T:Int)
 vl:∀t f:Int,0≤t→t<(T:Int)→0≤f→f<(F:Int)→sb (wD f) t→f355 h t f=some (val t f,true)∧f356 h t f=some (val t f,true)∧0≤val t f∧val t f<(T:Int)
 noval:∀t f:Int,0≤t→t<(T:Int)→0≤f→f<(F:Int)→¬sb (wD f) t→∃v,f355 h t f=some (v,false)∧f356 h t f=some (v,false)
 mono:∀t u f:Int,0≤f→f<(F:Int)→sb (wD f) t→sb t u→sb (val t f) (val u f)
 le:∀a b:Int,sb a b→a≤b
end Go.Proofs.YthppjmoncapdfaaGreatDoor.cl.pf
namespace Go.Proofs.YthppjmoncapdfaaGreatDoor.cl.pf
open Go Go.AM
def wz:Nat→List Int→Int→List Node
 |_,[],t=>[⟨t,[]⟩]
 |k,f::π,t=>⟨0,[⟨f,(k+1:Nat)⟩]⟩::wz (k+1) π t
def qN (π:List Int) (t:Int):FSt:=⟨wz 0 π t⟩
theorem wR:∀(k:Nat) (π:List Int) (t:Int),(wz k π t).length=π.length+1
 |_,[],_=>rfl
 |k,f::π,t=>by simp only [wz,bg,wR (k+1) π t]
theorem gz (π:List Int) (t:Int):(qN π t).az.length=π.length+1:=wR 0 π t
theorem tj:∀(k:Nat) (π:List Int) (t:Int) (i:Nat),(wz k π t)[i]? =if h:i<π.length then some ⟨0,[⟨π[i],(k+i+1:Nat)⟩]⟩ else if i=π.length then some ⟨t,[]⟩ else none
 |k,[],t,0=>by simp [wz]
 |k,[],t,i+1=>by simp [wz]
 |k,f::π,t,0=>by simp [wz]
 |k,f::π,t,i+1=>by
  simp only [wz,oT,tj (k+1) π t i,bg,Nat.add_lt_add_iff_right,List.getElem_cons_succ,Nat.add_right_cancel_iff];by_cases h:i<π.length
  ·simp only [h,dite_true]
   congr 4
   omega
  ·simp only [h,dite_false]
theorem zZ {π:List Int} {t:Int} {i:Nat} (h:i<π.length):kX (qN π t) i=[(π[i],i+1)]:=by
 unfold kX;have:(qN π t).az[i]? =some ⟨0,[⟨π[i],(0+i+1:Nat)⟩]⟩:=by
  show (wz 0 π t)[i]? =_;rw [tj,lF h]
 rw [this];simp [Wu]
theorem qF {π:List Int} {t:Int}:kX (qN π t) π.length=[]:=by
 unfold kX;have:(qN π t).az[π.length]? =some ⟨t,[]⟩:=by
  show (wz 0 π t)[π.length]? =_;rw [tj,dif_neg (xS _),au rfl]
 rw [this];rfl
theorem Zz {π:List Int} {t:Int} {i:Nat} (h:i<π.length):sg (qN π t) i=0:=by
 unfold sg;have:(qN π t).az[i]? =some ⟨0,[⟨π[i],(0+i+1:Nat)⟩]⟩:=by
  show (wz 0 π t)[i]? =_;rw [tj,lF h]
 rw [this]
theorem B5 {π:List Int} {t:Int}:sg (qN π t) π.length=t:=by
 unfold sg;have:(qN π t).az[π.length]? =some ⟨t,[]⟩:=by
  show (wz 0 π t)[π.length]? =_;rw [tj,dif_neg (xS _),au rfl]
 rw [this]
theorem Ve:∀(k:Nat) (π:List Int) (t:Int),∀x∈wz k π t,∀a∈x.cO,0≤a.To
 |_,[],t,x,hx,a,ha=>by simp [wz] at hx;subst hx;cases ha
 |k,f::π,t,x,hx,a,ha=>by
  simp only [wz,aD] at hx;rcases hx with rfl|hx
  ·simp at ha;subst ha;show 0≤((k+1:Nat):Int);omega
  ·exact Ve (k+1) π t x hx a ha
theorem chn_go {T F:Nat} (hT:0<T) {π:List Int} {t:Int} (hπ:∀f∈π,0≤f∧f<(F:Int)) (ht:0≤t∧t<(T:Int)):GO T F (nY (qN π t)) (qN π t).az.length:=by
 rw [gz];refine ⟨fun i hi p hp=> ?_,fun i hi=> ?_,fun i hi p hp=> ?_,fun i hi=> ?_⟩<;>by_cases h:i<π.length
 ·have hp:p∈kX (qN π t) i:=hp
  rw [zZ h] at hp;simp at hp;subst hp;show i+1<_;omega
 ·have hp:p∈kX (qN π t) i:=hp
  have e:i=π.length:=by omega
  rw [e,qF] at hp;cases hp
 ·show AU (kX _ i);rw [zZ h];exact Dg _ _
 ·have e:i=π.length:=by omega
  show AU (kX _ i);rw [e,qF];exact AU.nil
 ·have hp:p∈kX (qN π t) i:=hp
  rw [zZ h] at hp;simp at hp;subst hp;exact hπ _ (bF h)
 ·have hp:p∈kX (qN π t) i:=hp
  have e:i=π.length:=by omega
  rw [e,qF] at hp;cases hp
 ·show 0≤sg _ i∧sg _ i<_;rw [Zz h];omega
 ·have e:i=π.length:=by omega
  show 0≤sg _ i∧sg _ i<_;rw [e,B5];exact ht
theorem chn_vis {π:List Int} {t:Int}:∀(j i k:Nat),π.length=i+j→j<k→qw (kX (qN π t)) k i (List.range i)=List.range (π.length+1):=by
 intro j
 induction j with
 |zero=>
  intro i k hi hk;have e:i=π.length:=by omega
  obtain ⟨k,rfl⟩:∃k',k=k'+1:=⟨k-1,by omega⟩
  rw [qw,ak (by simp),e,qF,jC];rfl
 |succ j ih=>
  intro i k hi hk;obtain ⟨k,rfl⟩:∃k',k=k'+1:=⟨k-1,by omega⟩
  rw [qw,ak (by simp),zZ (by omega),←jC];exact ih (i+1) k (by omega) (by omega)
theorem sO {T F:Nat} (hT:0<T) {π:List Int} {t:Int} (hπ:∀f∈π,0≤f∧f<(F:Int)) (ht:0≤t∧t<(T:Int)):Can T F (qN π t):=by
 refine IA (by rw [gz];omega) (chn_go hT hπ ht) (Ve 0 π t) ?_;rw [gz];exact chn_vis π.length 0 _ (by omega) (by omega)
theorem Mq {π:List Int} {t:Int}:∀(i:Nat),i≤π.length→BZ (qN π t) (π.take i)=some i:=by
 intro i
 induction i with
 |zero=>intro _;rfl
 |succ i ih=>
  intro hi;rw [c8,aH (by omega:i<π.length)];refine zT.2 ⟨i,ih (by omega),?_⟩;show Bj (kX _ i) _=_;rw [zZ (by omega)];simp [Bj]
theorem at_take {C:Gr} {n k:Nat} {π:List Int} (h:Bv C n π=some k) (i:Nat):∃j,Bv C n (π.take i)=some j∧Bv C j (π.drop i)=some k:=by
 rw [←kj i π,B0,dw] at h;obtain ⟨j,h1,h2⟩:=h;refine ⟨j,h1,h2⟩
def O9 (C:Gr) (π:List Int) (i:Nat):Nat:=(Bv C 0 (π.take i)).getD 0
theorem Ss {C:Gr} {k:Nat} {π:List Int} (h:Bv C 0 π=some k) (i:Nat):Bv C 0 (π.take i)=some (O9 C π i):=by
 obtain ⟨j,h1,_⟩:=at_take h i;unfold O9;rw [h1];rfl
theorem CQ {C:Gr} {k:Nat} {π:List Int} (h:Bv C 0 π=some k):O9 C π π.length=k:=by
 unfold O9;rw [gw,h];rfl
theorem uU {C:Gr} (hC:YV C) {k:Nat} {π:List Int} (h:Bv C 0 π=some k) {i:Nat} (hi:i<π.length):(π[i],O9 C π (i+1))∈C.sc (O9 C π i):=by
 have h1:=Ss h (i+1);rw [c8,aH hi] at h1;obtain ⟨j,h2,h3⟩:=zT.1 h1;rw [Ss h i] at h2;cases h2;exact (uK (hC _)).1 h3
section
variable {T F:Nat} {sb:Int→Int→Prop} (hT:TO T sb) {π:List Int} {t:Int} (hπ:∀f∈π,0≤f∧f<(F:Int)) (ht:0≤t∧t<(T:Int))
include hT hπ ht
theorem Zy {C:FSt} (hC:Can T F C):Le sb (qN π t) C↔∃k,BZ C π=some k∧sb t (sg C k):=by
 have hT0:0<T:=by omega
 have hc:=sO (F:=F) hT0 hπ ht;constructor
 ·rintro ⟨m,hm⟩
  have e:=Mq (π:=π) (t:=t) π.length (aS _);rw [gw] at e;refine ⟨m π.length,Jg hc hC hm e,?_⟩;have:=(hm.2 π.length (hc.NJ (by rw [gz];omega))).1;have e2:(nY (qN π t)).ty π.length=t:=B5;rw [e2] at this;exact this
 ·rintro ⟨k,hk,hs⟩
  refine ⟨O9 (nY C) π,by simp [O9,Bv],fun i hi=> ?_⟩;have hi2:=hc.Yr hi;rw [gz] at hi2;by_cases h:i<π.length
  ·refine ⟨?_,fun p hp=> ?_⟩
   ·show sb (sg (qN π t) i) _
    rw [Zz h];have hr:=U7 (fun i _=>hC.Bo i) _ 0 _ .root (Ss hk i);have:=hC.go.tp _ (hC.Yr hr);exact hT.top this.1 this.2
   ·have hp:p∈kX (qN π t) i:=hp
    rw [zZ h] at hp;simp at hp;subst hp;exact uU hC.Lp hk h
  ·have e:i=π.length:=by omega
   subst e;refine ⟨?_,fun p hp=> ?_⟩
   ·show sb (sg (qN π t) _) _
    rw [B5,CQ hk];exact hs
   ·have hp:p∈kX (qN π t) π.length:=hp
    rw [qF] at hp;cases hp
end
theorem chn_cov {π:List Int} {t:Int} {P:List (List Int)} (h:∀i,i≤π.length→π.take i∈P):YK (qN π t) P:=fun k hk=>by
 rw [gz] at hk;exact ⟨π.take k,h k (by omega),Mq k (by omega)⟩
theorem Lo (π:List Int) (t:Int):wz 0 π t=(wz 0 π t).take π.length++[⟨t,[]⟩]:=by
 have h:(wz 0 π t).drop π.length=[⟨t,[]⟩]:=by
  apply kE;intro i;rw [s5,tj];cases i with
  |zero=>simp
  |succ i=>rw [dif_neg (by omega),ak (by omega)];simp
 rw [←h,kj]
theorem c430 {p:List Int} (hp:p.length≤1000000) (t:Int):f430 p ⟨[⟨t,[]⟩]⟩=some (qN p t):=by
 refine e430 ?_;have key:∀(k i:Nat),p.length=i+k→ON p (i:Int) ⟨[⟨t,[]⟩]⟩ ⟨[]⟩ ((wz 0 p t).take i)=some (qN p t):=by
  intro k
  induction k with
  |zero=>
   intro i hi;have e:i=p.length:=by omega
   subst e;refine abx ?_;rw [cond_neg (by rw [bA];omega)];refine aby ?_;rw [cond_pos (by rfl),iN,iN];refine k430_12 ?_;rw [cond_neg (by rfl),cz _ (by rw [gD,wR];omega) (by simp) (by omega),←Lo];refine aby ?_;rw [cond_neg (by rfl)];rfl
  |succ k ih=>
   intro i hi;have hil:i<p.length:=by omega
   refine abx ?_;rw [cond_pos (by rw [bB];omega),cn hil,cz _ (by rw [gD,wR];omega) (by simp) (by omega),bG (by omega)];have:=ih (i+1) (by omega);rw [c8,tj,lF hil] at this;simpa using this
 have:=key p.length 0 (by omega);simpa using this
theorem c426 {p:List Int} (hp:p.length≤1000000) (t:Int):f426 p ⟨[⟨t,[]⟩]⟩=some (qN p t):=by
 refine e426 ?_;have key:∀(k i:Nat),p.length=i+k→OI p p (p.length:Int) (i:Int) ⟨[⟨t,[]⟩]⟩ ⟨[]⟩ ((wz 0 p t).take i)=some (qN p t):=by
  intro k
  induction k with
  |zero=>
   intro i hi;have e:i=p.length:=by omega
   subst e;refine abq ?_;rw [cond_neg (by rw [bA];omega)];refine abr ?_;rw [cond_pos (by rfl),iN];refine k426_12 ?_;rw [cond_neg (by rfl),cz _ (by rw [gD,wR];omega) (by simp) (by omega),←Lo];refine abr ?_;rw [cond_neg (by rfl)];rfl
  |succ k ih=>
   intro i hi;have hil:i<p.length:=by omega
   refine abq ?_;rw [cond_pos (by rw [bB];omega),cn hil,cz _ (by rw [gD,wR];omega) (by simp) (by omega),bG (by omega)];have:=ih (i+1) (by omega);rw [c8,tj,lF hil] at this;simpa using this
 have:=key p.length 0 (by omega);simpa using this
end Go.Proofs.YthppjmoncapdfaaGreatDoor.cl.pf
