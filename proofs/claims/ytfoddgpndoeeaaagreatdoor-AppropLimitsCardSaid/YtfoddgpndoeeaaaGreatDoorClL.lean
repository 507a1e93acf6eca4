/- The Closure laws. -/
import Derived.Test.YtfoddgpndoeeaaaGreatDoorClJ
set_option linter.unusedVariables false
set_option linter.unusedSimpArgs false
set_option linter.unusedSectionVars false
namespace Go.Proofs.YtfoddgpndoeeaaaGreatDoor.cl
open Go Go.AM
def mk (w:Nat):List Nat→Nat
 |[]=>w
 |j::l=>mk (w|||2^ j) l
theorem OH:∀(l:List Nat) (w i:Nat),(mk w l).testBit i=(w.testBit i||decide (i∈l)):=by
 intro l
 induction l with
 |nil=>intro w i;simp [mk]
 |cons j l ih=>
  intro w i;rw [mk,ih,Nat.testBit_or,Nat.testBit_two_pow];by_cases h:j=i
  ·subst h;simp
  ·have:¬i=j:=fun e=>h e.symm
   simp [h,this]
theorem uX {j:Nat} (h:j<64):2^ j<18446744073709551616:=by
 have:=Nat.pow_lt_pow_right (a:=2) (by omega) h;simpa using this
theorem VY:∀(l:List Nat) (w:Nat),w<18446744073709551616→(∀j∈l,j<64)→mk w l<18446744073709551616:=by
 intro l
 induction l with
 |nil=>intro w h _;exact h
 |cons j l ih=>intro w h hj;exact ih _ (OU h (uX (hj j (by simp)))) fun k hk=>hj k (by simp [hk])
theorem TZ {x:Nat} (h:x<64):Int.tdiv (x:Int) 64=0:=by
 rw [Int.tdiv_eq_ediv_of_nonneg (by omega)];omega
theorem T1 {x:Nat} (h:x<64):Int.tmod (x:Int) 64=(x:Int):=by
 rw [Int.tmod_eq_emod_of_nonneg (by omega)];omega
theorem rK {p:Nat} (h:p<18446744073709551616):IntKind.wrap .u64 (p:Int)=(p:Int):=kM (by omega) (by omega)
def bitsOf (w:Nat):List Nat:=(List.range 64).filter w.testBit
def pc (w:Nat):Nat:=(bitsOf w).length
theorem vF {α:Type} {p q:α→Bool}:∀{l:List α},(∀x∈l,p x=true→q x=true)→(∃x∈l,p x=false∧q x=true)→(l.filter p).length<(l.filter q).length:=by
 intro l
 induction l with
 |nil=>rintro _ ⟨x,hx,_⟩;cases hx
 |cons y l ih=>
  intro h1 h2;have hle:∀{l:List α},(∀x∈l,p x=true→q x=true)→(l.filter p).length≤(l.filter q).length:=by
   intro l
   induction l with
   |nil=>intro _;simp
   |cons z l H9=>
    intro h;have:=H9 fun x hx=>h x (by simp [hx])
    cases hp:p z with
    |true=>simp [List.filter_cons,hp,h z (by simp) hp];omega
    |false=>cases hq:q z<;>simp [List.filter_cons,hp,hq]<;>omega
  have hl:=hle (l:=l) fun x hx=>h1 x (by simp [hx])
  obtain ⟨x,hx,hpx,hqx⟩:=h2;rcases List.mem_cons.1 hx with rfl|hx
  ·simp [List.filter_cons,hpx,hqx];omega
  ·have:=ih (fun x hx=>h1 x (by simp [hx])) ⟨x,hx,hpx,hqx⟩
   cases hp:p y with
   |true=>simp [List.filter_cons,hp,h1 y (by simp) hp];omega
   |false=>cases hq:q y<;>simp [List.filter_cons,hp,hq]<;>omega
theorem V6 {a b:Nat} (hb:b<18446744073709551616) (h:sub a b=true) (hne:a≠b):pc a<pc b:=by
 apply vF
 ·intro i _ hi;exact gV.1 h i hi
 ·apply Classical.byContradiction
  intro hc;apply hne;refine vh h (gV.2 fun i hi=> ?_);have SZ:i<64:=by
   apply Classical.byContradiction;intro hc;have:b.testBit i=false:=Nat.testBit_lt_two_pow (Nat.lt_of_lt_of_le (by simpa using hb:b<2^ 64) (Nat.pow_le_pow_right (by omega) (by omega)));rw [this] at hi;cases hi
  cases ha:a.testBit i with
  |true=>rfl
  |false=>exact absurd ⟨i,by simpa using SZ,ha,hi⟩ hc
open Classical in
noncomputable def idxs (d:List af) (all:List aR) (x:aR):List Nat:=(List.range all.length).filter fun i=>decide (Le d x (all.getD i []))
noncomputable def cw (d:List af) (all:List aR) (x:aR):Nat:=mk 0 (idxs d all x)
theorem nr {d:List af} {all:List aR} {x:aR} {i:Nat}:(cw d all x).testBit i=true↔i<all.length∧Le d x (all.getD i []):=by
 rw [cw,OH,Nat.zero_testBit,Bool.false_or,decide_eq_true_iff,idxs,List.mem_filter,List.mem_range];simp only [decide_eq_true_eq]
theorem MO {d:List af} {all:List aR} {x:aR} (h:all.length≤64):cw d all x<18446744073709551616:=VY _ _ (by omega) fun j hj=>by
 have:=List.mem_range.1 (List.mem_filter.1 hj).1;omega
def oF (l:List Nat) (b:Nat):List Nat:=if b=0∨b∈l then l else l++[b]
def gI (i:Nat):Nat→Nat→List Nat→List Nat
 |0,_,l=>l
 |n+1,k,l=>if l.length≤256 then gI i n (k+1) (oF l (l.getD i 0&&&l.getD k 0)) else l
def fZ:Nat→Nat→List Nat→List Nat
 |0,_,l=>l
 |n+1,i,l=>if i<l.length∧l.length≤256 then fZ n (i+1) (gI i i 0 l) else l
def qA (cs:List Nat):List Nat:=fZ 258 0 cs
theorem yI (l:List Nat) (b:Nat):∃e,oF l b=l++e∧e.length≤1:=by
 unfold oF;split
 ·exact ⟨[],by simp,by simp⟩
 ·exact ⟨[b],rfl,by simp⟩
theorem K4 (i:Nat):∀(n k:Nat) (l:List Nat),l.length≤257→∃e,gI i n k l=l++e∧(l++e).length≤257:=by
 intro n
 induction n with
 |zero=>intro k l h;exact ⟨[],by simp [gI],by simpa using h⟩
 |succ n ih=>
  intro k l h;unfold gI;split
  ·obtain ⟨e,he,hle⟩:=yI l (l.getD i 0&&&l.getD k 0)
   obtain ⟨e',he',hle'⟩:=ih (k+1) (oF l (l.getD i 0&&&l.getD k 0)) (by rw [he];simp;omega);rw [he'];rw [he] at hle'⊢;exact ⟨e++e',by simp,by simpa using hle'⟩
  ·exact ⟨[],by simp,by simpa using h⟩
theorem JN {l:List Nat} {b:Nat} (hl:∀c∈l,c<18446744073709551616) (hb:b<18446744073709551616):∀c∈oF l b,c<18446744073709551616:=by
 intro c hc;unfold oF at hc;split at hc
 ·exact hl c hc
 ·rcases List.mem_append.1 hc with h|h
  ·exact hl c h
  ·simp only [List.mem_singleton] at h;subst h;exact hb
theorem getD_map {l:List Nat} {i:Nat} (h:i<l.length):(l.map e1)[i]? =some (e1 (l.getD i 0)):=by
 rw [List.getElem?_map,List.getD_eq_getElem?_getD,List.getElem?_eq_getElem h];rfl
theorem CW {l:List Nat} {i:Nat} (hl:∀c∈l,c<18446744073709551616) (h:i<l.length):l.getD i 0<18446744073709551616:=hl _ (kE h)
theorem Nb (i:Nat):∀(n k:Nat) (l:List Nat),(∀c∈l,c<18446744073709551616)→∀c∈gI i n k l,c<18446744073709551616:=by
 intro n
 induction n with
 |zero=>intro k l h;exact h
 |succ n ih=>
  intro k l h;unfold gI;split
  ·refine ih _ _ (JN h ?_)
   by_cases hi:i<l.length
   ·exact Nat.lt_of_le_of_lt Nat.and_le_left (CW h hi)
   ·rw [List.getD_eq_getElem?_getD,List.getElem?_eq_none (by omega)];simp
  ·exact h
structure Fm (cs l:List Nat):Prop where
 nd:l.Nodup
 nz:∀c∈l,c≠0
 gen:∀P:Nat→Prop,(∀c∈cs,P c)→(∀a b,P a→P b→P (a&&&b))→∀c∈l,P c
 pre:∃e,l=cs++e
theorem Fm.add {cs l:List Nat} (h:Fm cs l) {i k:Nat} (hi:i<l.length) (hk:k<l.length):Fm cs (oF l (l.getD i 0&&&l.getD k 0)):=by
 unfold oF;split
 ·exact h
 ·rename_i hc
  simp only [not_or] at hc;refine ⟨?_,?_,?_,?_⟩
  ·rw [List.nodup_append]
   exact ⟨h.nd,by simp,fun a ha b hb=>by simp only [List.mem_singleton] at hb;subst hb;exact fun e=>hc.2 (e▸ha)⟩
  ·intro c sJ
   rcases List.mem_append.1 sJ with h'|h'
   ·exact h.nz c h'
   ·simp only [List.mem_singleton] at h';subst h';exact hc.1
  ·intro P h1 h2 c sJ
   rcases List.mem_append.1 sJ with h'|h'
   ·exact h.gen P h1 h2 c h'
   ·simp only [List.mem_singleton] at h';subst h'
    exact h2 _ _ (h.gen P h1 h2 _ (kE hi)) (h.gen P h1 h2 _ (kE hk))
  ·obtain ⟨e,he⟩:=h.pre
   exact ⟨e++[l.getD i 0&&&l.getD k 0],by rw [he];simp⟩
theorem nQ {l e:List Nat} {i:Nat} (h:i<l.length):(l++e).getD i 0=l.getD i 0:=by
 rw [List.getD_eq_getElem?_getD,List.getD_eq_getElem?_getD,List.getElem?_append_left h]
theorem PC (l:List Nat) (b:Nat):b=0∨b∈oF l b:=by
 unfold oF;split
 ·assumption
 ·simp
theorem HI {cs:List Nat} (i:Nat):∀(n k:Nat) (l:List Nat),Fm cs l→i<l.length→k+n≤i→Fm cs (gI i n k l)∧((gI i n k l).length≤256→∀j,k≤j→j<k+n→l.getD i 0&&&l.getD j 0=0∨l.getD i 0&&&l.getD j 0∈gI i n k l)∧∃e,gI i n k l=l++e:=by
 intro n
 induction n with
 |zero=>intro k l h hi hk;exact ⟨h,fun _ j h1 h2=>by omega,[],by simp [gI]⟩
 |succ n ih=>
  intro k l h hi hk;unfold gI;split
  ·obtain ⟨e,he,_⟩:=yI l (l.getD i 0&&&l.getD k 0)
   have hil:i<(oF l (l.getD i 0&&&l.getD k 0)).length:=by rw [he];simp;omega
   obtain ⟨a1,a2,e',a3⟩:=ih (k+1) _ (h.add hi (by omega)) hil (by omega);refine ⟨a1,fun hlen j h1 h2=> ?_,e++e',by rw [a3,he];simp⟩;by_cases hj:j=k
   ·subst hj
    rcases PC l (l.getD i 0&&&l.getD j 0) with h0|h0
    ·exact .inl h0
    ·right;rw [a3];exact List.mem_append_left _ h0
   ·have:=a2 hlen j (by omega) (by omega)
    rw [he,nQ hi,nQ (by omega)] at this;rw [he];exact this
  ·rename_i hc
   refine ⟨h,fun hlen=>absurd hlen hc,[],by simp⟩
theorem Fe {cs:List Nat}:∀(n i:Nat) (l:List Nat),258≤i+n→l.length≤257→Fm cs l→(∀a b,a<i→b<a→a<l.length→l.getD a 0&&&l.getD b 0=0∨l.getD a 0&&&l.getD b 0∈l)→
  Fm cs (fZ n i l)∧(fZ n i l).length≤257∧((fZ n i l).length≤256→∀a b,b<a→a<(fZ n i l).length→(fZ n i l).getD a 0&&&(fZ n i l).getD b 0=0∨(fZ n i l).getD a 0&&&(fZ n i l).getD b 0∈fZ n i l):=by
 intro n
 induction n with
 |zero=>
  intro i l hn hlen h hc;exact ⟨h,hlen,fun _ a b h1 h2=>hc a b (by have FA:a<l.length:=h2;omega) h1 h2⟩
 |succ n ih=>
  intro i l hn hlen h hc;unfold fZ;split
  ·rename_i hi
   obtain ⟨a1,a2,e,a3⟩:=HI (cs:=cs) i i 0 l h hi.1 (by omega);obtain ⟨e',he',hle'⟩:=K4 i i 0 l hlen;have hlen':(gI i i 0 l).length≤257:=by rw [he'];exact hle'
   by_cases Ny:(gI i i 0 l).length≤256
   ·refine ih (i+1) _ (by omega) hlen' a1 ?_
    intro a b hai hba hal;by_cases hai':a=i
    ·subst hai'
     rw [a3,nQ hi.1,nQ (by omega),←a3];exact a2 Ny b (by omega) (by omega)
    ·rw [a3,nQ (by omega),nQ (by omega)]
     rcases hc a b (by omega) hba (by omega) with h0|h0
     ·exact .inl h0
     ·exact .inr (List.mem_append_left _ h0)
   ·have hstop:∀n,fZ n (i+1) (gI i i 0 l)=gI i i 0 l:=by
     intro n;cases n with
     |zero=>rfl
     |succ n=>unfold fZ;rw [if_neg (fun h=>Ny h.2)]
    rw [hstop];exact ⟨a1,hlen',fun h=>absurd h Ny⟩
  ·rename_i hi
   refine ⟨h,hlen,fun h256 a b h1 h2=> ?_⟩;have:¬i<l.length:=fun hh=>hi ⟨hh,h256⟩
   exact hc a b (by omega) h1 h2
theorem ur {cs:List Nat} (hnd:cs.Nodup) (hnz:∀c∈cs,c≠0) (hlen:cs.length≤256):Fm cs (qA cs)∧(qA cs).length≤257∧((qA cs).length≤256→∀a∈qA cs,∀b∈qA cs,a&&&b≠0→a&&&b∈qA cs):=by
 obtain ⟨h1,h2,h3⟩:=Fe (cs:=cs) 258 0 cs (by omega) (by omega) ⟨hnd,hnz,fun P h1 _=>h1,[],by simp⟩ (fun a b h=>by omega);refine ⟨h1,h2,fun hle a ha b hb hne=> ?_⟩;obtain ⟨i,hi,rfl⟩:=List.mem_iff_getElem.1 ha;obtain ⟨j,hj,rfl⟩:=List.mem_iff_getElem.1 hb;have UE:(qA cs)[i]=(qA cs).getD i 0:=by rw [List.getD_eq_getElem?_getD,List.getElem?_eq_getElem hi];rfl
 have e2':(qA cs)[j]=(qA cs).getD j 0:=by rw [List.getD_eq_getElem?_getD,List.getElem?_eq_getElem hj];rfl
 rw [UE,e2'] at hne⊢;by_cases e:i=j
 ·subst e;rw [Nat.and_self];exact kE hi
 ·by_cases hlt:j<i
  ·exact (h3 hle i j hlt hi).resolve_left hne
  ·rw [Nat.and_comm] at hne⊢
   exact (h3 hle j i (by omega) hj).resolve_left hne
end Go.Proofs.YtfoddgpndoeeaaaGreatDoor.cl
set_option linter.unusedVariables false
set_option linter.unusedSimpArgs false
set_option linter.unusedSectionVars false
namespace Go.Proofs.YtfoddgpndoeeaaaGreatDoor.cl
open Go Go.AM
def j5 (l:List aR):aR:=(l.map fun x=>38::x).flatten
theorem tv (x:aR) (l:List aR):ja [38] (x::l)=x++j5 l:=by
 induction l generalizing x with
 |nil=>simp [ja,j5]
 |cons y l ih=>
  rw [show ja [38] (x::y::l)=x++[38]++ja [38] (y::l) from rfl,ih y];simp [j5]
noncomputable def ij (d:List af) (w:Nat):List aR→List Nat→Nat→List aR→aR
 |s::ss,c::cs,i,acc=>if c=w then s else ij d w ss cs (i+1) (if w.testBit i=true then acc++[s] else acc)
 |_,_,_,acc=>ja [38] (nB d acc)
theorem FU {d:List af} {l:List aR} {x:aR} (h:x∈nB d l):x∈l:=by
 have:=(List.mem_filter.1 h).1;exact (List.mem_filter.1 (dr.1 this)).1
theorem FT {d:List af} {l:List aR}:(nB d l).length≤l.length:=by
 refine Nat.le_trans (List.length_filter_le _ _) (Nat.le_trans (vf _) (List.length_filter_le _ _))
noncomputable def BQ (d:List af) (all:List aR) (jr:List Nat) (w:Nat):aR:=ij d w all jr 0 []
abbrev rO:=aR×Nat
def AL (p:rO):aB:=⟨p.1,e1 p.2⟩
def xC (p q:rO):Bool:=decide (pc p.2>pc q.2)||(decide (pc p.2=pc q.2)&&Op.bytesLess p.1 q.1)
theorem pg {p q:rO}:xC p q=true↔pc p.2>pc q.2∨(pc p.2=pc q.2∧Op.bytesLess p.1 q.1=true):=by
 simp [xC]
theorem Lt (p q:rO) (h:xC p q=true):xC q p=false:=by
 apply Classical.byContradiction;intro hc;rw [Bool.not_eq_false,pg] at hc;rw [pg] at h;rcases h with h|⟨h1,h2⟩
 ·rcases hc with h'|⟨HV,_⟩<;>omega
 ·rcases hc with h'|⟨HV,FA⟩
  ·omega
  ·rw [iX h2] at FA;cases FA
theorem TB (x y z:rO) (h:xC x y=true) (h':xC z y=false):xC x z=true:=by
 rw [pg] at h⊢;have hn:¬(pc z.2>pc y.2∨(pc z.2=pc y.2∧Op.bytesLess z.1 y.1=true)):=fun hc=>by
  rw [←pg,h'] at hc;cases hc
 simp only [not_or,not_and] at hn;rcases h with h|⟨h1,h2⟩
 ·left;omega
 ·by_cases e:pc z.2=pc y.2
  ·right
   refine ⟨by omega,?_⟩;have hz:=hn.2 e;have RE:Op.bytesLess z.1 y.1=false:=by simpa using hz
   by_cases e2:z.1=y.1
   ·rw [e2];exact h2
   ·exact qF _ _ _ h2 (kX _ _ RE e2)
  ·left;omega
theorem BJ {α:Type} (lt:α→α→Bool) (x:α):∀l:List α,(nV lt x l).Perm (x::l):=by
 intro l
 induction l with
 |nil=>exact .refl _
 |cons y l ih=>
  unfold nV;split
  ·exact .refl _
  ·exact (ih.cons y).trans (.swap x y l)
theorem K6 {E:List rO} {l:List rO} (hE:fI xC E):fI xC (l.foldl (fun E p=>nV xC p E) E)∧(l.foldl (fun E p=>nV xC p E) E).Perm (E++l):=by
 induction l generalizing E with
 |nil=>exact ⟨hE,by simp⟩
 |cons p l ih=>
  obtain ⟨h1,h2⟩:=ih (qS xC Lt TB hE (x:=p));refine ⟨h1,h2.trans ?_⟩;refine ((BJ xC p E).append_right l).trans ?_;exact (List.perm_middle (a:=p) (l₁:=E) (l₂:=l)).symm
abbrev cI (d:List af):List aR:=gw (cU d)
noncomputable def jr (d:List af):List Nat:=(cI d).map (cw d (cI d))
noncomputable def bz (d:List af):List rO:=((qA (jr d)).map fun w=>((BQ d (cI d) (jr d) w,w):rO)).foldl (fun E p=>nV xC p E) []
theorem fq {d:List af}:(cI d).length≤d.length:=by
 have:=vf (cU d);simpa using this
theorem s6 {d:List af} (h:d.length≤64):∀c∈jr d,c<18446744073709551616:=by
 intro c hc;obtain ⟨x,_,rfl⟩:=List.mem_map.1 hc;exact MO (by have:=fq (d:=d);omega)
theorem Ia {s:aR} (h:isName s=true):s.length≤32:=by
 unfold isName at h;simp only [Bool.and_eq_true,decide_eq_true_eq] at h;exact h.1.1.1.2
theorem EA {cs l:List Nat} (hF:Fm cs l) (h:∀c∈cs,c<18446744073709551616):∀c∈l,c<18446744073709551616:=
 hF.gen (fun c=>c<18446744073709551616) h fun a b ha _=>Nat.lt_of_le_of_lt Nat.and_le_left ha
theorem Fs {d:List af} {i:Nat} (h:i<(cI d).length):(cI d).getD i []∈cU d:=by
 rw [List.getD_eq_getElem?_getD,List.getElem?_eq_getElem h];exact dr.1 (List.getElem_mem h)
theorem C0 {d:List af} {x:aR} (h:x∈cU d):∃i,i<(cI d).length∧(cI d).getD i []=x:=by
 obtain ⟨i,hi,e⟩:=List.mem_iff_getElem.1 (dr.2 h);exact ⟨i,hi,by rw [List.getD_eq_getElem?_getD,List.getElem?_eq_getElem hi];exact e⟩
theorem yU {d:List af} {x y:aR} (hy:y∈cU d):sub (cw d (cI d) y) (cw d (cI d) x)=true↔Le d x y:=by
 rw [gV];constructor
 ·intro h
  obtain ⟨i,hi,e⟩:=C0 hy;have:=h i (nr.2 ⟨hi,by rw [e];exact .refl⟩);rw [nr,e] at this;exact this.2
 ·intro h i hi
  rw [nr] at hi⊢;exact ⟨hi.1,xX.trans h hi.2⟩
theorem Su {d:List af} (A:Acc d) {x y:aR} (hx:x∈cU d) (hy:y∈cU d) (h:cw d (cI d) x=cw d (cI d) y):x=y:=
 le_antisymm A ((yU hy).1 (by rw [h];exact vi _)) ((yU hx).1 (by rw [h];exact vi _))
theorem BU {α β:Type} {f:α→β}:∀{l:List α},l.Nodup→(∀x∈l,∀y∈l,f x=f y→x=y)→(l.map f).Nodup:=by
 intro l
 induction l with
 |nil=>intro _ _;simp
 |cons x l ih=>
  intro hn hi;have hn':=List.nodup_cons.1 hn;rw [List.map_cons,List.nodup_cons];refine ⟨fun hm=> ?_,ih hn'.2 fun a ha b hb=>hi a (by simp [ha]) b (by simp [hb])⟩;obtain ⟨y,hy,e⟩:=List.mem_map.1 hm;exact hn'.1 (hi y (by simp [hy]) x (by simp) e▸hy)
theorem nN {d:List af} (A:Acc d):(jr d).Nodup:=BU (eH _).nodup fun x hx y hy h=>Su A (dr.1 hx) (dr.1 hy) h
theorem yV {d:List af}:∀c∈jr d,c≠0:=by
 intro c hc;obtain ⟨x,hx,rfl⟩:=List.mem_map.1 hc;intro e;obtain ⟨i,hi,e'⟩:=C0 (dr.1 hx);have:(cw d (cI d) x).testBit i=true:=nr.2 ⟨hi,by rw [e'];exact .refl⟩;rw [e] at this;simp at this
theorem uk {d:List af}:(jr d).length≤d.length:=by
 have:=fq (d:=d);simpa [jr] using this
theorem rU {d:List af}:fI xC (bz d)∧(bz d).Perm ((qA (jr d)).map fun w=>((BQ d (cI d) (jr d) w,w):rO)):=by
 have:=K6 (E:=[]) (l:=(qA (jr d)).map fun w=>((BQ d (cI d) (jr d) w,w):rO)) (by simp [fI]);simpa [bz] using this
theorem rT {d:List af}:((bz d).map (·.2)).Perm (qA (jr d)):=by
 have:=(rU (d:=d)).2.map (·.2);simpa [Function.comp_def] using this
theorem Qj {d:List af} (A:Acc d) (h64:d.length≤64) (hle:(qA (jr d)).length≤256):Up ((bz d).map (·.2)):=by
 have hlen:(jr d).length≤256:=by have:=uk (d:=d);omega
 obtain ⟨F,_,F3⟩:=ur (nN A) yV hlen;have hP:=rT (d:=d);have hmem:∀c,c∈(bz d).map (·.2)↔c∈qA (jr d):=fun c=>hP.mem_iff
 have hlt:=EA F (s6 h64);have hnd:((bz d).map (·.2)).Nodup:=hP.nodup_iff.2 F.nd;have Rs:∀(i:Nat) (hi:i<((bz d).map (·.2)).length),((bz d).map (·.2)).getD i 0=((bz d)[i]'(by simpa using hi)).2:=by
  intro i hi;rw [List.getD_eq_getElem?_getD,List.getElem?_eq_getElem hi];simp
 have VE:∀i j,i<((bz d).map (·.2)).length→j<((bz d).map (·.2)).length→sub (((bz d).map (·.2)).getD j 0) (((bz d).map (·.2)).getD i 0)=true→i≤j:=by
  intro i j hi hj hs;apply Classical.byContradiction;intro hc;have hji:j<i:=by omega
  have hpw:=List.pairwise_iff_getElem.1 (rU (d:=d)).1 j i (by simpa using hj) (by simpa using hi) hji;have hne:((bz d).map (·.2)).getD j 0≠((bz d).map (·.2)).getD i 0:=fun e=>by
   have:=getD_inj hnd hj hi e;omega
  have hp:=V6 (hlt _ ((hmem _).1 (kE hi))) hs hne;rw [Rs i hi,Rs j hj] at hp;have:xC ((bz d)[i]'(by simpa using hi)) ((bz d)[j]'(by simpa using hj))=true:=pg.2 (.inl hp);rw [this] at hpw;cases hpw
 obtain ⟨t,ht,hroot⟩:=root A;have hr:cw d (cI d) t∈qA (jr d):=by
  obtain ⟨e,he⟩:=F.pre;rw [he];exact List.mem_append_left _ (List.mem_map_of_mem (dr.2 ht))
 have hsub:∀c∈qA (jr d),sub c (cw d (cI d) t)=true:=F.gen (fun c=>sub c (cw d (cI d) t)=true) (fun c hc=>by
  obtain ⟨x,hx,rfl⟩:=List.mem_map.1 hc
  exact (yU (dr.1 hx)).2 (hroot x (dr.1 hx))) (fun a b ha _=>LZ (Ec a b) ha)
 have hpos:0<((bz d).map (·.2)).length:=List.length_pos_of_mem ((hmem _).2 hr);obtain ⟨k,hk,hke⟩:∃k,k<((bz d).map (·.2)).length∧((bz d).map (·.2)).getD k 0=cw d (cI d) t:=by
  obtain ⟨k,hk,h1,_⟩:=J1 ((hmem _).2 hr);exact ⟨k,hk,h1⟩
 have hk0:k=0:=by
  have:=VE k 0 hk hpos (by rw [hke];exact hsub _ ((hmem _).1 (kE hpos)));omega
 subst hk0;refine ⟨hnd,fun c hc=>F.nz c ((hmem c).1 hc),fun a ha b hb hne=>(hmem _).2 (F3 hle a ((hmem a).1 ha) b ((hmem b).1 hb) hne),fun c hc=>by rw [hke];exact hsub c ((hmem c).1 hc),hpos,VE⟩
theorem PT {d:List af} (A:Acc d) (h64:d.length≤64) (hle:(qA (jr d)).length≤256):Cd ((bz d).map AL) ((bz d).map (·.2)):=by
 have hlen:(jr d).length≤256:=by have:=uk (d:=d);omega
 obtain ⟨F,_,F3⟩:=ur (nN A) yV hlen;have hP:=rT (d:=d);refine ⟨by simp [Function.comp_def,AL],fun c hc=>EA F (s6 h64) c (hP.mem_iff.1 hc),?_⟩;rw [hP.length_eq];omega
end Go.Proofs.YtfoddgpndoeeaaaGreatDoor.cl
