/- Equations over nodes, their universal solution; least upper. -/
import Derived.Test.YthppjmoncapdfaaGreatDoorClXb
set_option linter.unusedVariables false
set_option linter.unusedSimpArgs false
set_option linter.unusedSectionVars false
namespace Go.Proofs.YthppjmoncapdfaaGreatDoor.cl.pf
open Go Go.AM
structure Rj (sb:Int→Int→Prop) (U:Gr) (n:Nat) (W:List (Nat×Nat)) (C:Gr) (m:Nat→Nat):Prop where
 ty:∀x,x<n→sb (U.ty x) (C.ty (m x))
 ar:∀x,x<n→∀p∈U.sc x,(p.1,m p.2)∈C.sc (m x)
 eq:∀p∈W,m p.1=m p.2
def Rf (C:Gr):Prop:=∀x,vc (C.sc x)
theorem Can.IL {T F:Nat} {f:FSt} (h:Can T F f):Rf (kD f):=fun x=>h.xG x
structure Wn (T F:Nat) (sb:Int→Int→Prop) (U:Gr) (n:Nat) (W:List (Nat×Nat)) (G:Gr) (ρ:Nat→Nat):Prop where
 go:GO T F G n
 lt:∀x,x<n→ρ x<n
 idem:∀x,x<n→ρ (ρ x)=ρ x
 cls:∀x,x<n→∀p∈G.sc x,ρ p.2=p.2
 sol:Rj sb U n W G ρ
 least:∀C m,Rf C→Rj sb U n W C m→∀x,x<n→m (ρ x)=m x∧sb (G.ty (ρ x)) (C.ty (m x))∧∀p∈G.sc (ρ x),(p.1,m p.2)∈C.sc (m x)
section
variable {T F:Nat} {sb:Int→Int→Prop} (hT:TO T sb) {U:Gr} {n:Nat} {W:List (Nat×Nat)} {G:Gr} {ρ:Nat→Nat} (h:Wn T F sb U n W G ρ) {r:Nat} (hr:r<n)
include h hr
theorem Wn.can:Can T F (iz G n (ρ r)):=Lz h.go (h.lt r hr)
theorem Wn.fix {i:Nat} (hi:vB G.sc (ρ r) i):i<n∧ρ i=i:=by
 induction hi with
 |root=>exact ⟨h.lt r hr,h.idem r hr⟩
 |step hn hp ih=>exact ⟨h.go.bd _ ih.1 _ hp,h.cls _ ih.1 _ hp⟩
theorem Wn.hom {C:Gr} {m:Nat→Nat} (hC:Rf C) (hs:Rj sb U n W C m):BT sb G (ρ r) C (m r) m:=by
 refine ⟨(h.least C m hC hs r hr).1,fun i hi=> ?_⟩;obtain ⟨hin,hir⟩:=h.fix hr hi;have:=h.least C m hC hs i hin;rw [hir] at this;exact this.2
include hT
theorem Wn.le {C:FSt} {m:Nat→Nat} (hC:Can T F C) (hs:Rj sb U n W (kD C) m) (h0:m r=0):Le sb (iz G n (ρ r)) C:=by
 have hh:=h.hom hr hC.IL hs;rw [h0] at hh;exact ⟨_,BT.comp (s1:=sb) (s2:=sb) (s3:=sb) (fun a b=>hT.trans a b) (NP h.go (h.lt r hr) hT.refl) hh⟩
theorem Wn.part {A:Gr} {s:Nat} {e:Nat→Nat} (hA:∀i,vB A.sc s i→e i<n∧U.ty (e i)=A.ty i∧U.sc (e i)=(A.sc i).map fun p=>(p.1,e p.2)) (hs:ρ (e s)=ρ r):
  BT sb A s (kD (iz G n (ρ r))) 0 (fun i=>(gj G n (ρ r)).idxOf (ρ (e i))):=by
 have hh:BT sb A s G (ρ r) (fun i=>ρ (e i)):=by
  refine ⟨hs,fun i hi=> ?_⟩;obtain ⟨h1,h2,h3⟩:=hA i hi;refine ⟨?_,fun p hp=> ?_⟩
  ·have:=h.sol.ty _ h1;rw [h2] at this;exact this
  ·have:=h.sol.ar _ h1 (p.1,e p.2) (by rw [h3];exact List.mem_map.2 ⟨p,hp,rfl⟩)
   exact this
 exact BT.comp (s1:=sb) (s2:=sb) (s3:=sb) (fun a b=>hT.trans a b) hh (Oe h.go (h.lt r hr) hT.refl)
end
def Rc (l:List (Int×Nat)) (f:Int):Option Nat:=(l.find? fun p=>p.1==f).map (·.2)
theorem pg {l:List (Int×Nat)} (h:vc l) {f:Int} {a:Nat}:Rc l f=some a↔(f,a)∈l:=by
 unfold Rc;constructor
 ·intro e
  cases e2:l.find? fun p=>p.1==f with
  |none=>rw [e2] at e;simp at e
  |some p=>
   rw [e2] at e;have h1:=List.mem_of_find?_eq_some e2;have h2:=List.find?_some e2;simp at e h2;rw [←h2,←e];exact h1
 ·intro hm
  cases e2:l.find? fun p=>p.1==f with
  |none=>
   have:=List.find?_eq_none.1 e2 _ hm;simp at this
  |some p=>
   have h1:=List.mem_of_find?_eq_some e2;have h2:=List.find?_some e2;simp at h2;have:(f,p.2)∈l:=by rw [←h2];exact h1
   rw [Option.map_some,h.IL this hm]
def vE (G:Gr):Nat→List Int→Option Nat
 |n,[]=>some n
 |n,f::π=>match Rc (G.sc n) f with
  |some k=>vE G k π
  |none=>none
theorem wh (G:Gr):∀(π σ:List Int) (n:Nat),vE G n (π++σ)=(vE G n π).bind fun k=>vE G k σ
 |[],_,_=>rfl
 |f::π,σ,n=>by
  simp only [List.cons_append,vE];cases Rc (G.sc n) f with
  |none=>rfl
  |some k=>exact wh G π σ k
theorem ug {G:Gr} {π:List Int} {f:Int} {n k:Nat}:vE G n (π++[f])=some k↔∃j,vE G n π=some j∧Rc (G.sc j) f=some k:=by
 rw [wh,Option.bind_eq_some_iff];constructor
 ·rintro ⟨j,h1,h2⟩
  refine ⟨j,h1,?_⟩;simp only [vE] at h2;cases e:Rc (G.sc j) f with
  |none=>rw [e] at h2;cases h2
  |some k'=>rw [e] at h2;exact h2
 ·rintro ⟨j,h1,h2⟩
  exact ⟨j,h1,by simp only [vE,h2]⟩
theorem Gf {sb:Int→Int→Prop} {G H:Gr} {r s:Nat} {m:Nat→Nat} (h:BT sb G r H s m) (hG:∀i,vB G.sc r i→vc (G.sc i)) (hH:Rf H):∀(π:List Int) (i k:Nat),vB G.sc r i→vE G i π=some k→vB G.sc r k∧vE H (m i) π=some (m k)
 |[],i,k,hi,e=>by simp only [vE] at e;cases e;exact ⟨hi,rfl⟩
 |f::π,i,k,hi,e=>by
  simp only [vE] at e;cases e1:Rc (G.sc i) f with
  |none=>rw [e1] at e;cases e
  |some j=>
   rw [e1] at e;have hm:=(pg (hG i hi)).1 e1;have h2:=(h.2 i hi).2 _ hm;have h3:=Gf h hG hH π j k (hi.step (p:=(f,j)) hm) e;refine ⟨h3.1,?_⟩;simp only [vE];rw [(pg (hH _)).2 h2];exact h3.2
theorem NI {G:Gr} {r:Nat} (hG:∀i,vB G.sc r i→vc (G.sc i)):∀(π:List Int) (i k:Nat),vB G.sc r i→vE G i π=some k→vB G.sc r k
 |[],i,k,hi,e=>by simp only [vE] at e;cases e;exact hi
 |f::π,i,k,hi,e=>by
  simp only [vE] at e;cases e1:Rc (G.sc i) f with
  |none=>rw [e1] at e;cases e
  |some j=>
   rw [e1] at e;exact NI hG π j k (hi.step (p:=(f,j)) ((pg (hG i hi)).1 e1)) e
abbrev wg (f:FSt) (π:List Int):Option Nat:=vE (kD f) 0 π
theorem J5 {T F:Nat} {sb:Int→Int→Prop} {f g:FSt} (hf:Can T F f) (hg:Can T F g) {m:Nat→Nat} (h:BT sb (kD f) 0 (kD g) 0 m) {π:List Int} {k:Nat} (e:wg f π=some k):wg g π=some (m k):=by
 have:=(Gf h (fun i _=>hf.xG i) hg.IL π 0 k .root e).2;rw [h.1] at this;exact this
def K2 (f:FSt) (P:List (List Int)):Prop:=∀k,k<f.aj.length→∃π∈P,wg f π=some k
theorem Ro:∀{n:Nat} {l:List Nat},(∀k,k<n→k∈l)→n≤l.length
 |0,_,_=>Nat.zero_le _
 |n+1,l,h=>by
  have hm:=h n (by omega);have h2:n≤(l.erase n).length:=Ro fun k hk=>(List.mem_erase_of_ne (by omega)).2 (h k (by omega))
  rw [List.length_erase_of_mem hm] at h2;have:=List.length_pos_of_mem hm;omega
theorem K2.le {f:FSt} {P:List (List Int)} (h:K2 f P):f.aj.length≤P.length:=by
 have:f.aj.length≤(P.filterMap fun π=>wg f π).length:=Ro fun k hk=>by
  obtain ⟨π,hp,e⟩:=h k hk;exact List.mem_filterMap.2 ⟨π,hp,e⟩
 exact Nat.le_trans this (List.length_filterMap_le _ _)
end Go.Proofs.YthppjmoncapdfaaGreatDoor.cl.pf
set_option linter.unusedVariables false
set_option linter.unusedSimpArgs false
set_option linter.unusedSectionVars false
namespace Go.Proofs.YthppjmoncapdfaaGreatDoor.cl.pf
open Go Go.AM
section
variable {R:Type}
theorem By {l:List Int} {i:Nat} (h:i<l.length) (k:Int→Option R):check (0≤(i:Int)∧Int.toNat (i:Int)<l.length) (ec l (Int.toNat (i:Int)) k)=k (l.getD i 0):=by
 rw [bY ⟨by omega,by simpa using h⟩,Int.toNat_natCast];exact N7 h k
theorem rdL {α:Type} {l:List (List α)} {i:Nat} (h:i<l.length) (k:List α→Option R):check (0≤(i:Int)∧Int.toNat (i:Int)<l.length) (ec l (Int.toNat (i:Int)) k)=k (l.getD i []):=by
 rw [bY ⟨by omega,by simpa using h⟩,Int.toNat_natCast];exact N7 h k
theorem xM {l:Nat} {i:Nat} (h:i<l) (a:Option R):check (0≤(i:Int)∧Int.toNat (i:Int)<l) a=a:=bY ⟨by omega,by simpa using h⟩ a
theorem gp {U0 U1 U2 U3:Type} (a:U0) (b:U1) (c:U2) (d:U3) (k:U0→U1→U2→U3→Option R):tK (some (a,b,c,d)) k=k a b c d:=rfl
theorem mI {U0 U1 U2 U3 U4:Type} (a:U0) (b:U1) (c:U2) (d:U3) (e:U4) (k:U0→U1→U2→U3→U4→Option R):Ao (some (a,b,c,d,e)) k=k a b c d e:=rfl
theorem Cb {U0 U1 U2 U3 U4 U5:Type} (a:U0) (b:U1) (c:U2) (d:U3) (e:U4) (g:U5) (k:U0→U1→U2→U3→U4→U5→Option R):I5 (some (a,b,c,d,e,g)) k=k a b c d e g:=rfl
end
theorem dS {α:Type} (l:List α) (i j:Nat) (v d:α):(l.set i v).getD j d=if i=j∧j<l.length then v else l.getD j d:=by
 rw [List.getD_eq_getElem?_getD,List.getD_eq_getElem?_getD,List.getElem?_set];by_cases e:i=j
 ·subst e
  by_cases h:i<l.length
  ·simp [h]
  ·simp [h]
 ·simp [e]
structure PI (n:Nat) (par:List Int) (rep d:Nat→Nat):Prop where
 len:par.length=n
 up:∀x,x<n→∃y,y<n∧par.getD x 0=(y:Int)∧rep y=rep x∧(y=x∨d y<d x)
 fix:∀x,x<n→(par.getD x 0=(x:Int)↔rep x=x)
 rl:∀x,x<n→rep x<n
 rr:∀x,x<n→rep (rep x)=rep x
section
variable {n:Nat} {rep d:Nat→Nat} {TL:List aX} {FL:List au} {ty:List Int} {ar:List (List aF)}
theorem h485:∀(k x:Nat) (par:List Int),d x≤k→x<n→PI n par rep d→∃par',DW (x:Int) TL FL par ty ar=some (((rep x:Nat):Int),par',ty,ar)∧PI n par' rep d:=by
 intro k
 induction k with
 |zero=>
  intro x par hk hx P;obtain ⟨y,hy,h1,h2,h3⟩:=P.up x hx;have hxl:x<par.length:=by rw [P.len];exact hx
  have e:y=x:=by omega
  subst e;refine ⟨par,Mk _ _ _ _ _ _ ?_,P⟩;rw [By hxl,h1,cond_neg (by simp),(P.fix y hx).1 h1]
 |succ k ih=>
  intro x par hk hx P;obtain ⟨y,hy,h1,h2,h3⟩:=P.up x hx;have hxl:x<par.length:=by rw [P.len];exact hx
  have Zr:y<par.length:=by rw [P.len];exact hy
  by_cases e:y=x
  ·subst e
   refine ⟨par,Mk _ _ _ _ _ _ ?_,P⟩;rw [By hxl,h1,cond_neg (by simp),(P.fix y hx).1 h1]
  ·have h3:d y<d x:=by omega
   obtain ⟨z,hz,g1,g2,g3⟩:=P.up y hy;have hdz:d z<d x:=by rcases g3 with rfl|g3<;>omega
   have P':PI n (par.set x z) rep d:=by
    refine ⟨by rw [List.length_set];exact P.len,fun w hw=> ?_,fun w hw=> ?_,P.rl,P.rr⟩
    ·by_cases ew:x=w
     ·subst ew
      exact ⟨z,hz,by rw [dS,if_pos ⟨rfl,hxl⟩],by rw [g2,h2], .inr hdz⟩
     ·obtain ⟨v,hv⟩:=P.up w hw
      exact ⟨v,hv.1,by rw [dS,if_neg (fun h=>ew h.1)];exact hv.2.1,hv.2.2⟩
    ·by_cases ew:x=w
     ·subst ew
      rw [dS,if_pos ⟨rfl,hxl⟩];have hxz:z≠x:=fun e=>by rw [e] at hdz;omega
      have:=P.fix x hx;rw [h1] at this;constructor
      ·intro h;omega
      ·intro h;have:=this.2 h;omega
     ·rw [dS,if_neg (fun h=>ew h.1)];exact P.fix w hw
   obtain ⟨par',r1,r2⟩:=ih z (par.set x z) (by omega) hz P';refine ⟨par',Mk _ _ _ _ _ _ ?_,r2⟩;rw [By hxl,h1,cond_pos (by simp;omega),By hxl,h1,By Zr,g1,By hxl,Int.toNat_natCast];have hs:x<(par.set x (z:Int)).length:=by rw [List.length_set];exact hxl
   have h0:=By hs (fun iL=>DW iL TL FL (par.set x (z:Int)) ty ar);rw [Int.toNat_natCast] at h0;rw [h0,dS,if_pos ⟨rfl,hxl⟩,r1,g2,h2]
theorem Xz {x:Nat} {par:List Int} (hx:x<n) (P:PI n par rep d):∃par',f485 (x:Int) TL FL par ty ar=some (((rep x:Nat):Int),par',ty,ar)∧PI n par' rep d:=by
 obtain ⟨par',h1,h2⟩:=h485 (TL:=TL) (FL:=FL) (ty:=ty) (ar:=ar) (d x) x par (Nat.le_refl _) hx P;exact ⟨par',e485 _ _ _ _ _ _ h1,h2⟩
end
def mg:List aF→List aF→List aF×List aT
 |[],ys=>(ys,[])
 |x::xs,[]=>(x::xs,[])
 |x::xs,y::ys=>
  if x.aP<y.aP then (x::(mg xs (y::ys)).1,(mg xs (y::ys)).2)
  else if y.aP<x.aP then (y::(mg (x::xs) ys).1,(mg (x::xs) ys).2)
  else (x::(mg xs ys).1,⟨x.To,y.To⟩::(mg xs ys).2)
 termination_by x y=>x.length+y.length
theorem zj (ys:List aF):mg [] ys=(ys,[]):=by rw [mg]
theorem Bv (xs:List aF):mg xs []=(xs,[]):=by cases xs<;>rw [mg]
theorem TE {x y:aF} (xs ys:List aF) (h:x.aP<y.aP):mg (x::xs) (y::ys)=(x::(mg xs (y::ys)).1,(mg xs (y::ys)).2):=by rw [mg,if_pos h]
theorem TD {x y:aF} (xs ys:List aF) (h:y.aP<x.aP):mg (x::xs) (y::ys)=(y::(mg (x::xs) ys).1,(mg (x::xs) ys).2):=by rw [mg,if_neg (by omega),if_pos h]
theorem TC {x y:aF} (xs ys:List aF) (h:x.aP=y.aP):mg (x::xs) (y::ys)=(x::(mg xs ys).1,⟨x.To,y.To⟩::(mg xs ys).2):=by rw [mg,if_neg (by omega),if_neg (by omega)]
structure MG (x y:List aF) (r:List aF×List aT):Prop where
 sub:∀a∈r.1,a∈x∨a∈y
 left:∀a∈x,a∈r.1
 right:∀a∈y,∃b∈r.1,b.aP=a.aP∧(b=a∨⟨b.To,a.To⟩∈r.2)
 pair:∀p∈r.2,∃a∈x,∃b∈y,a.aP=b.aP∧p=⟨a.To,b.To⟩
 le:r.2.length≤y.length
def yV (l:List aF):Prop:=l.Pairwise fun p q=>p.aP<q.aP
theorem AJ:∀(k:Nat) (x y:List aF),x.length+y.length≤k→MG x y (mg x y)
 |_,[],y,_=>by rw [zj];exact ⟨fun a h=> .inr h,fun a h=>by (cases h),fun a h=>⟨a,h,rfl, .inl rfl⟩,fun p h=>by (cases h),Nat.zero_le _⟩
 |_,x::xs,[],_=>by rw [Bv];exact ⟨fun a h=> .inl h,fun a h=>h,fun a h=>by (cases h),fun p h=>by (cases h),Nat.zero_le _⟩
 |0,x::xs,y::ys,h=>by simp at h
 |k+1,x::xs,y::ys,h=>by
  simp only [List.length_cons] at h;rcases Int.lt_trichotomy x.aP y.aP with hlt|heq|hgt
  ·rw [TE _ _ hlt]
   have M:=AJ k xs (y::ys) (by simp only [List.length_cons];omega);refine ⟨fun a h=> ?_,fun a h=> ?_,fun a h=> ?_,fun p h=> ?_,M.le⟩
   ·rcases List.mem_cons.1 h with rfl|h
    ·exact .inl (by simp)
    ·rcases M.sub a h with h|h
     ·exact .inl (by simp [h])
     ·exact .inr h
   ·rcases List.mem_cons.1 h with rfl|h
    ·simp
    ·exact List.mem_cons_of_mem _ (M.left a h)
   ·obtain ⟨b,hb,h2⟩:=M.right a h
    exact ⟨b,List.mem_cons_of_mem _ hb,h2⟩
   ·obtain ⟨a,ha,b,hb,h2⟩:=M.pair p h
    exact ⟨a,List.mem_cons_of_mem _ ha,b,hb,h2⟩
  ·rw [TC _ _ heq]
   have M:=AJ k xs ys (by omega);refine ⟨fun a h=> ?_,fun a h=> ?_,fun a h=> ?_,fun p h=> ?_,by simp only [List.length_cons];have:=M.le;omega⟩
   ·rcases List.mem_cons.1 h with rfl|h
    ·exact .inl (by simp)
    ·rcases M.sub a h with h|h
     ·exact .inl (by simp [h])
     ·exact .inr (by simp [h])
   ·rcases List.mem_cons.1 h with rfl|h
    ·simp
    ·exact List.mem_cons_of_mem _ (M.left a h)
   ·rcases List.mem_cons.1 h with rfl|h
    ·exact ⟨x,by simp,heq, .inr (by simp)⟩
    ·obtain ⟨b,hb,h2,h3⟩:=M.right a h
     exact ⟨b,List.mem_cons_of_mem _ hb,h2,h3.imp id (List.mem_cons_of_mem _)⟩
   ·rcases List.mem_cons.1 h with rfl|h
    ·exact ⟨x,by simp,y,by simp,heq,rfl⟩
    ·obtain ⟨a,ha,b,hb,h2⟩:=M.pair p h
     exact ⟨a,List.mem_cons_of_mem _ ha,b,List.mem_cons_of_mem _ hb,h2⟩
  ·rw [TD _ _ hgt]
   have M:=AJ k (x::xs) ys (by simp only [List.length_cons];omega);refine ⟨fun a h=> ?_,fun a h=> ?_,fun a h=> ?_,fun p h=> ?_,by simp only [List.length_cons];have:=M.le;omega⟩
   ·rcases List.mem_cons.1 h with rfl|h
    ·exact .inr (by simp)
    ·rcases M.sub a h with h|h
     ·exact .inl h
     ·exact .inr (by simp [h])
   ·exact List.mem_cons_of_mem _ (M.left a h)
   ·rcases List.mem_cons.1 h with rfl|h
    ·exact ⟨a,by simp,rfl, .inl rfl⟩
    ·obtain ⟨b,hb,h2,h3⟩:=M.right a h
     exact ⟨b,List.mem_cons_of_mem _ hb,h2,h3⟩
   ·obtain ⟨a,ha,b,hb,h2⟩:=M.pair p h
    exact ⟨a,ha,b,List.mem_cons_of_mem _ hb,h2⟩
theorem Gt:∀(k:Nat) (x y:List aF),x.length+y.length≤k→yV x→yV y→yV (mg x y).1
 |_,[],y,_,_,h=>by rw [zj];exact h
 |_,x::xs,[],_,h,_=>by rw [Bv];exact h
 |0,x::xs,y::ys,h,_,_=>by simp at h
 |k+1,x::xs,y::ys,h,hx,hy=>by
  simp only [List.length_cons] at h;have hx':=List.pairwise_cons.1 hx;have hy':=List.pairwise_cons.1 hy;rcases Int.lt_trichotomy x.aP y.aP with hlt|heq|hgt
  ·rw [TE _ _ hlt]
   refine List.pairwise_cons.2 ⟨fun a ha=> ?_,Gt k xs (y::ys) (by simp only [List.length_cons];omega) hx'.2 hy⟩;rcases (AJ k xs (y::ys) (by simp only [List.length_cons];omega)).sub a ha with h|h
   ·exact hx'.1 a h
   ·rcases List.mem_cons.1 h with rfl|h
    ·exact hlt
    ·have:=hy'.1 a h;omega
  ·rw [TC _ _ heq]
   refine List.pairwise_cons.2 ⟨fun a ha=> ?_,Gt k xs ys (by omega) hx'.2 hy'.2⟩;rcases (AJ k xs ys (by omega)).sub a ha with h|h
   ·exact hx'.1 a h
   ·have:=hy'.1 a h;omega
  ·rw [TD _ _ hgt]
   refine List.pairwise_cons.2 ⟨fun a ha=> ?_,Gt k (x::xs) ys (by simp only [List.length_cons];omega) hx hy'.2⟩;rcases (AJ k (x::xs) ys (by simp only [List.length_cons];omega)).sub a ha with h|h
   ·rcases List.mem_cons.1 h with rfl|h
    ·exact hgt
    ·have:=hx'.1 a h;omega
   ·exact hy'.1 a h
theorem vp {α:Type} (x:α) (l:List α):((x::l).take (List.length (x::l))).drop (Int.toNat (1:Int))=l:=by
 rw [List.take_length];rfl
theorem ve {α R:Type} (x:α) (l:List α) (a:Option R):check (0≤(1:Int)∧(1:Int)≤(List.length (x::l):Nat)) a=a:=bY ⟨by omega,by simp only [List.length_cons];omega⟩ a
theorem eZ {α R:Type} (x:α) (l:List α) (k:α→Option R):bS (x::l) 0 k=k x:=JH (by omega) rfl k
theorem h486 {a:Nat} {TL:List aX} {FL:List au} {par ty:List Int} {ar:List (List aF)} (ha:a<ar.length):∀(k:Nat) (x y acc:List aF) (wt:List aT),x.length+y.length≤k→x.length+y.length+acc.length≤1000000000→wt.length+y.length≤1000000000→
  ja (a:Int) x y acc TL FL wt par ty ar=some (true,wt++(mg x y).2,par,ty,ar.set a (acc++(mg x y).1)):=by
 intro k
 induction k with
 |zero=>
  intro x y acc wt hk _ _;have hx:x=[]:=List.length_eq_zero_iff.1 (by omega);have hy:y=[]:=List.length_eq_zero_iff.1 (by omega);subst hx;subst hy;refine Ts _ _ _ _ _ _ _ _ _ _ ?_;rw [cond_neg (by rfl),cond_neg (by rfl),rdL ha,zj,List.append_nil,List.append_nil,Int.toNat_natCast]
 |succ k ih=>
  intro x y acc wt hk hacc hwt;refine Ts _ _ _ _ _ _ _ _ _ _ ?_;have P:∀{α:Type} (x:α) (l:List α),decide ((List.length (x::l):Int)>0)=true:=fun x l=>by rw [decide_eq_true_iff,List.length_cons];omega
  have Z:∀{α:Type} (x:α) (l:List α),((List.length (x::l):Int)==0)=false:=fun x l=>by rw [beq_eq_false_iff_ne,List.length_cons];omega
  cases x with
  |nil=>
   cases y with
   |nil=>rw [cond_neg (by rfl),cond_neg (by rfl),rdL ha,zj,List.append_nil,List.append_nil,Int.toNat_natCast]
   |cons y ys=>
    simp only [List.length_cons,List.length_nil] at hk hacc hwt
    rw [cond_neg (by rfl),cond_pos (P y ys),cond_neg (Z y ys),cond_neg (by rfl),cond_pos (by rfl),eZ,cM _ (by omega) (by simp) (by omega),ve,vp,
     ih [] ys (acc++[y]) wt (by simp;omega) (by simp;omega) (by omega),zj,zj]
    simp
  |cons x xs=>
   cases y with
   |nil=>
    simp only [List.length_cons,List.length_nil] at hk hacc hwt
    rw [cond_pos (P x xs),cond_pos (by rfl),eZ,cM _ (by omega) (by simp) (by omega),ve,vp,
     ih xs [] (acc++[x]) wt (by simp;omega) (by simp;omega) (by simp;omega),Bv,Bv]
    simp
   |cons y ys=>
    simp only [List.length_cons] at hk hacc hwt;rw [cond_pos (P x xs),cond_neg (Z y ys),cond_pos (P x xs),eZ,eZ];rcases Int.lt_trichotomy x.aP y.aP with hlt|heq|hgt
    ·rw [cond_pos (by rw [decide_eq_true_iff];exact hlt),eZ,cM _ (by omega) (by simp) (by omega),ve,vp,
      ih xs (y::ys) (acc++[x]) wt (by simp;omega) (by simp;omega) (by simp;omega),TE _ _ hlt]
     simp
    ·rw [cond_neg (by rw [decide_eq_false_iff_not];omega),cond_neg (Z x xs),eZ,eZ,cond_neg (by rw [decide_eq_false_iff_not];omega),eZ,eZ,cM _ (by omega) (by simp) (by omega),eZ,cM _ (by omega) (by simp) (by omega),ve,ve,vp,vp,
      ih xs ys (acc++[x]) _ (by omega) (by simp;omega) (by simp;omega),TC _ _ heq]
     simp
    ·rw [cond_neg (by rw [decide_eq_false_iff_not];omega),cond_neg (Z x xs),eZ,eZ,cond_pos (by rw [decide_eq_true_iff];exact hgt),eZ,cM _ (by omega) (by simp) (by omega),ve,vp,
      ih (x::xs) ys (acc++[y]) wt (by simp;omega) (by simp;omega) (by omega),TD _ _ hgt]
     simp
end Go.Proofs.YthppjmoncapdfaaGreatDoor.cl.pf
set_option linter.unusedVariables false
set_option linter.unusedSimpArgs false
set_option linter.unusedSectionVars false
namespace Go.Proofs.YthppjmoncapdfaaGreatDoor.cl.pf
open Go Go.AM
structure HM (h:bq) (T:Nat) (sb:Int→Int→Prop):Prop where
 to:TO T sb
 mt:∀a b:Int,0≤a→a<(T:Int)→0≤b→b<(T:Int)→
  (∃t,f335 h a b=some (t,true)∧f336 h a b=some (t,true)∧sb a t∧sb b t∧∀c,sb a c→sb b c→sb t c)∨
  (∃t,f335 h a b=some (t,false)∧f336 h a b=some (t,false)∧∀c,sb a c→sb b c→False)
def Ko (l:List aT):List (Nat×Nat):=l.map fun p=>(p.a0.toNat,p.a1.toNat)
def vA (rep:Nat→Nat) (wt:List (Nat×Nat)) (x y:Nat):Prop:=∀E:Nat→Nat→Prop,Equivalence E→(∀a b,rep a=rep b→E a b)→(∀p∈wt,E p.1 p.2)→E x y
theorem vA.imp {rep zT:Nat→Nat} {wt wt':List (Nat×Nat)} {x y:Nat} (h1:∀a b,rep a=rep b→vA zT wt' a b) (h2:∀p∈wt,vA zT wt' p.1 p.2) (h:vA rep wt x y):vA zT wt' x y:=
 fun E he hr hw=>h E he (fun a b hab=>h1 a b hab E he hr hw) fun p hp=>h2 p hp E he hr hw
theorem vA.zu {rep:Nat→Nat} {wt:List (Nat×Nat)} {x y:Nat} (h:rep x=rep y):vA rep wt x y:=fun E _ hr _=>hr x y h
theorem vA.OI {rep:Nat→Nat} {wt:List (Nat×Nat)} {p:Nat×Nat} (h:p∈wt):vA rep wt p.1 p.2:=fun E _ _ hw=>hw p h
theorem vA.symm {rep:Nat→Nat} {wt:List (Nat×Nat)} {x y:Nat} (h:vA rep wt x y):vA rep wt y x:=fun E he hr hw=>he.symm (h E he hr hw)
theorem vA.trans {rep:Nat→Nat} {wt:List (Nat×Nat)} {x y z:Nat} (h:vA rep wt x y) (h':vA rep wt y z):vA rep wt x z:=fun E he hr hw=>he.trans (h E he hr hw) (h' E he hr hw)
theorem vA.done {rep:Nat→Nat} {x y:Nat} (h:vA rep [] x y):rep x=rep y:=
 h (fun a b=>rep a=rep b) ⟨fun _=>rfl,fun h=>h.symm,fun h h'=>h.trans h'⟩ (fun _ _ h=>h) (fun p hp=>by cases hp)
structure AO (F n:Nat) (l:List aF):Prop where
 xG:yV l
 ok:∀a∈l,(0≤a.aP∧a.aP<(F:Int))∧0≤a.To∧a.To<(n:Int)
theorem AO.len {F n:Nat} {l:List aF} (h:AO F n l):l.length≤F:=by
 have:=tQ (N:=F) (o:=l.map fun a=>a.aP.toNat) (by
  have h1:=h.xG;have h2:=h.ok;clear h
  induction l with
  |nil=>simp
  |cons x l ih=>
   have hp:=List.pairwise_cons.1 h1;rw [List.map_cons,List.nodup_cons];refine ⟨fun hm=> ?_,ih hp.2 fun a ha=>h2 a (by simp [ha])⟩;obtain ⟨y,hy,e⟩:=List.mem_map.1 hm;have:=hp.1 y hy;have:=(h2 x (by simp)).1;have:=(h2 y (by simp [hy])).1
   omega) (fun x hx=>by
  obtain ⟨y,hy,rfl⟩:=List.mem_map.1 hx;have:=(h.ok y hy).1
  omega)
 simpa using this
theorem AO.mg {F n:Nat} {x y:List aF} (hx:AO F n x) (hy:AO F n y):AO F n (mg x y).1:=
 ⟨Gt _ x y (Nat.le_refl _) hx.xG hy.xG,fun a ha=>((AJ _ x y (Nat.le_refl _)).sub a ha).elim (hx.ok a) (hy.ok a)⟩
structure JI (T:Nat) (Q:List aF→Prop) (sb:Int→Int→Prop) (U:Gr) (n:Nat) (W:List (Nat×Nat)) (wt:List aT) (par ty:List Int) (ar:List (List aF)) (rep d:Nat→Nat):Prop where
 pi:PI n par rep d
 lt:ty.length=n
 la:ar.length=n
 tr:∀x,x<n→0≤ty.getD x 0∧ty.getD x 0<(T:Int)
 ao:∀x,x<n→Q (ar.getD x [])
 wo:∀p∈wt,(0≤p.a0∧p.a0<(n:Int))∧0≤p.a1∧p.a1<(n:Int)
 sty:∀x,x<n→sb (U.ty x) (ty.getD (rep x) 0)
 Zz:∀x,x<n→∀p∈U.sc x,∃a∈ar.getD (rep x) [],a.aP=p.1∧vA rep (Ko wt) p.2 a.To.toNat
 seq:∀p∈W,vA rep (Ko wt) p.1 p.2
 aW:∀C m,Rf C→Rj sb U n W C m→(∀x,x<n→m (rep x)=m x)∧(∀x,x<n→rep x=x→sb (ty.getD x 0) (C.ty (m x))∧∀a∈ar.getD x [],(a.aP,m a.To.toNat)∈C.sc (m x))∧∀p∈Ko wt,m p.1=m p.2
def cnt (n:Nat) (rep:Nat→Nat):Nat:=((List.range n).filter fun x=>rep x==x).length
section
variable {T:Nat} {Q:List aF→Prop} {sb:Int→Int→Prop} {U:Gr} {n:Nat} {W:List (Nat×Nat)} {wt:List aT} {par ty:List Int} {ar:List (List aF)} {rep d:Nat→Nat}
theorem uH (p:aT):Ko (wt++[p])=Ko wt++[(p.a0.toNat,p.a1.toNat)]:=by simp [Ko]
theorem JI.kT (h:JI T Q sb U n W wt par ty ar rep d) {par':List Int} {d':Nat→Nat} (hp:PI n par' rep d'):JI T Q sb U n W wt par' ty ar rep d':={ h with pi:=hp }
theorem JI.skip {p:aT} (h:JI T Q sb U n W (wt++[p]) par ty ar rep d) (e:rep p.a0.toNat=rep p.a1.toNat):JI T Q sb U n W wt par ty ar rep d:=by
 have key:∀{x y},vA rep (Ko (wt++[p])) x y→vA rep (Ko wt) x y:=fun {x y}=>vA.imp (fun a b hab=> .zu hab) fun q hq=>by
  rw [uH] at hq;rcases List.mem_append.1 hq with hq|hq
  ·exact .OI hq
  ·rw [List.mem_singleton] at hq;subst hq;exact .zu e
 refine { h with wo:=fun q hq=>h.wo q (by simp [hq]),Zz:=fun x hx q hq=> ?_,seq:=fun q hq=>key (h.seq q hq),aW:=fun C m hC hs=> ?_ }
 ·obtain ⟨a,h1,h2,h3⟩:=h.Zz x hx q hq
  exact ⟨a,h1,h2,key h3⟩
 ·obtain ⟨h1,h2,h3⟩:=h.aW C m hC hs
  exact ⟨h1,h2,fun q hq=>h3 q (by rw [uH];simp [hq])⟩
theorem JI.start {a b:Nat} (h:JI T Q sb U n W [] par ty ar rep d) (ha:a<n) (hb:b<n):JI T Q sb U n (W++[(a,b)]) [⟨a,b⟩] par ty ar rep d:=by
 have key:∀{x y},vA rep (Ko []) x y→vA rep (Ko [⟨(a:Int),b⟩]) x y:=fun {x y}=>vA.imp (fun a b hab=> .zu hab) fun q hq=>by cases hq
 refine { h with wo:=fun q hq=> ?_,Zz:=fun x hx q hq=> ?_,seq:=fun q hq=> ?_,aW:=fun C m hC hs=> ?_ }
 ·rw [List.mem_singleton] at hq;subst hq;exact ⟨⟨by show 0≤(a:Int);omega,by show (a:Int)<n;omega⟩,by show 0≤(b:Int);omega,by show (b:Int)<n;omega⟩
 ·obtain ⟨c,h1,h2,h3⟩:=h.Zz x hx q hq
  exact ⟨c,h1,h2,key h3⟩
 ·rcases List.mem_append.1 hq with hq|hq
  ·exact key (h.seq q hq)
  ·rw [List.mem_singleton] at hq;subst hq
   exact vA.OI (p:=(a,b)) (by simp [Ko])
 ·obtain ⟨h1,h2,h3⟩:=h.aW C m hC { hs with eq:=fun p hp=>hs.eq p (by simp [hp]) }
  refine ⟨h1,h2,fun q hq=> ?_⟩;simp only [Ko,List.map_cons,List.map_nil,List.mem_singleton] at hq;subst hq;exact hs.eq (a,b) (by simp)
section
variable {p:aT} (h:JI T Q sb U n W (wt++[p]) par ty ar rep d) {a b:Nat} (ha:rep p.a0.toNat=a) (hb:rep p.a1.toNat=b) (hab:a≠b)
include h
theorem JI.pn:p.a0.toNat<n∧p.a1.toNat<n:=by
 have:=h.wo p (by simp);omega
include ha hb
theorem JI.rn:a<n∧b<n∧rep a=a∧rep b=b:=by
 obtain ⟨h1,h2⟩:=h.pn;have h3:=h.pi.rl _ h1;have h4:=h.pi.rl _ h2;have h5:=h.pi.rr _ h1;have h6:=h.pi.rr _ h2;rw [ha] at h3 h5;rw [hb] at h4 h6;exact ⟨h3,h4,h5,h6⟩
theorem JI.meq {C:Gr} {m:Nat→Nat} (hC:Rf C) (hs:Rj sb U n W C m):m a=m b:=by
 obtain ⟨h1,h2⟩:=h.pn;obtain ⟨e1,_,e3⟩:=h.aW C m hC hs;have:=e3 (p.a0.toNat,p.a1.toNat) (by rw [uH];simp);rw [←ha,←hb,e1 _ h1,e1 _ h2];exact this
theorem JI.no (hm:∀c,sb (ty.getD a 0) c→sb (ty.getD b 0) c→False) (C:Gr) (m:Nat→Nat) (hC:Rf C) (hs:Rj sb U n W C m):False:=by
 obtain ⟨h1,h2,h3,h4⟩:=h.rn ha hb;obtain ⟨_,e2,_⟩:=h.aW C m hC hs;refine hm _ (e2 a h1 h3).1 ?_;rw [h.meq ha hb hC hs];exact (e2 b h2 h4).1
include hab
theorem JI.merge (hQ:∀l,Q l→∀c∈l,0≤c.To∧c.To<(n:Int)) (hT:∀{a b c},sb a b→sb b c→sb a c) {r:List aF×List aT} (M:MG (ar.getD a []) (ar.getD b []) r) (hq:Q r.1) {t:Int} (t0:0≤t∧t<(T:Int)) (t1:sb (ty.getD a 0) t) (t2:sb (ty.getD b 0) t) (t3:∀c,sb (ty.getD a 0) c→sb (ty.getD b 0) c→sb t c):
  JI T Q sb U n W (wt++r.2) (par.set b a) (ty.set a t) (ar.set a r.1) (fun x=>if rep x=b then a else rep x) (fun x=>if rep x=b then d x+d a+1 else d x):=by
 obtain ⟨LZ,QV,PG,hrb⟩:=h.rn ha hb;have key:∀{x y},vA rep (Ko (wt++[p])) x y→vA (fun x=>if rep x=b then a else rep x) (Ko (wt++r.2)) x y:=fun {x y}=>vA.imp (fun u v huv=> .zu (by show (if _ then _ else _)=if _ then _ else _;rw [huv])) fun q hq=>by
  rw [uH] at hq;rcases List.mem_append.1 hq with hq|hq
  ·exact .OI (by unfold Ko at *;rw [List.map_append];simp [hq])
  ·rw [List.mem_singleton] at hq;subst hq
   refine .zu ?_;show (if _ then _ else _)=if _ then _ else _
   rw [ha,hb,if_neg hab,if_pos rfl]
 have vh:b<par.length:=by rw [h.pi.len];exact QV
 have hne:∀x,rep x=b→x≠a:=fun x e e2=>hab (by rw [←e,e2,PG])
 refine ⟨⟨by rw [List.length_set];exact h.pi.len,fun x hx=> ?_,fun x hx=> ?_,fun x hx=> ?_,fun x hx=> ?_⟩,by rw [List.length_set];exact h.lt,by rw [List.length_set];exact h.la,fun x hx=> ?_,fun x hx=> ?_,fun q hq=> ?_,fun x hx=> ?_,fun x hx q hq=> ?_,fun q hq=>key (h.seq q hq),fun C m hC hs=> ?_⟩
 ·by_cases e:b=x
  ·subst e
   refine ⟨a,LZ,by rw [dS,if_pos ⟨rfl,vh⟩],?_, .inr ?_⟩
   ·show (if _ then _ else _)=if _ then _ else _
    rw [PG,hrb,if_neg hab,if_pos rfl]
   ·show (if _ then _ else _)<if _ then _ else _
    rw [PG,hrb,if_neg hab,if_pos rfl];omega
  ·obtain ⟨y,hy,g1,g2,g3⟩:=h.pi.up x hx
   refine ⟨y,hy,by rw [dS,if_neg (fun h=>e h.1)];exact g1,?_,?_⟩
   ·show (if _ then _ else _)=if _ then _ else _
    rw [g2]
   ·refine g3.imp id fun g3=> ?_
    show (if _ then _ else _)<if _ then _ else _
    rw [g2];by_cases e2:rep x=b
    ·rw [if_pos e2,if_pos e2];omega
    ·rw [if_neg e2,if_neg e2];exact g3
 ·show _↔(if rep x=b then a else rep x)=x
  by_cases e:b=x
  ·subst e
   rw [dS,if_pos ⟨rfl,vh⟩,if_pos hrb];omega
  ·rw [dS,if_neg (fun h=>e h.1),h.pi.fix x hx]
   by_cases e2:rep x=b
   ·rw [if_pos e2]
    have:=hne x e2;omega
   ·rw [if_neg e2]
 ·show (if _ then _ else _)<n
  split
  ·exact LZ
  ·exact h.pi.rl x hx
 ·show (if rep (if rep x=b then a else rep x)=b then a else rep (if rep x=b then a else rep x))=if rep x=b then a else rep x
  by_cases e2:rep x=b
  ·rw [if_pos e2,PG,if_neg hab]
  ·rw [if_neg e2,h.pi.rr x hx,if_neg e2]
 ·rw [dS]
  split
  ·exact t0
  ·exact h.tr x hx
 ·rw [dS]
  split
  ·exact hq
  ·exact h.ao x hx
 ·rcases List.mem_append.1 hq with hq|hq
  ·exact h.wo q (by simp [hq])
  ·obtain ⟨u,hu,v,hv,_,rfl⟩:=M.pair q hq
   exact ⟨hQ _ (h.ao a LZ) u hu,hQ _ (h.ao b QV) v hv⟩
 ·have h0:=h.sty x hx
  show sb _ ((ty.set a t).getD (if rep x=b then a else rep x) 0);have hal:a<ty.length:=by rw [h.lt];exact LZ
  by_cases e2:rep x=b
  ·rw [if_pos e2,dS,if_pos ⟨rfl,hal⟩]
   rw [e2] at h0;exact hT h0 t2
  ·rw [if_neg e2]
   by_cases e3:a=rep x
   ·rw [←e3,dS,if_pos ⟨rfl,hal⟩]
    rw [←e3] at h0;exact hT h0 t1
   ·rw [dS,if_neg (fun h=>e3 h.1)];exact h0
 ·obtain ⟨c,h1,h2,h3⟩:=h.Zz x hx q hq
  have hal:a<ar.length:=by rw [h.la];exact LZ
  show∃c∈(ar.set a _).getD (if rep x=b then a else rep x) [],_;by_cases e2:rep x=b
  ·rw [if_pos e2,dS,if_pos ⟨rfl,hal⟩]
   rw [e2] at h1;obtain ⟨c',m1,m2,m3⟩:=M.right c h1;refine ⟨c',m1,by rw [m2,h2],?_⟩;rcases m3 with rfl|m3
   ·exact key h3
   ·refine (key h3).trans (vA.symm (vA.OI (p:=(c'.To.toNat,c.To.toNat)) ?_))
    unfold Ko;rw [List.map_append];exact List.mem_append_right _ (List.mem_map.2 ⟨_,m3,rfl⟩)
  ·rw [if_neg e2]
   by_cases e3:a=rep x
   ·rw [←e3,dS,if_pos ⟨rfl,hal⟩]
    rw [←e3] at h1;exact ⟨c,M.left c h1,h2,key h3⟩
   ·rw [dS,if_neg (fun h=>e3 h.1)];exact ⟨c,h1,h2,key h3⟩
 ·obtain ⟨e1,e2,e3⟩:=h.aW C m hC hs
  have hm:=h.meq ha hb hC hs;have hal:a<ar.length:=by rw [h.la];exact LZ
  have hal':a<ty.length:=by rw [h.lt];exact LZ
  obtain ⟨a1,a2⟩:=e2 a LZ PG;obtain ⟨b1,b2⟩:=e2 b QV hrb;rw [←hm] at b1 b2;refine ⟨fun x hx=> ?_,fun x hx hr=> ?_,fun q hq=> ?_⟩
  ·show m (if rep x=b then a else rep x)=m x
   by_cases e:rep x=b
   ·rw [if_pos e,hm,←e,e1 x hx]
   ·rw [if_neg e,e1 x hx]
  ·have hr:(if rep x=b then a else rep x)=x:=hr
   by_cases e:rep x=b
   ·rw [if_pos e] at hr;exact absurd hr.symm (hne x e)
   ·rw [if_neg e] at hr
    by_cases e4:a=x
    ·subst e4
     rw [dS,if_pos ⟨rfl,hal'⟩,dS,if_pos ⟨rfl,hal⟩];exact ⟨t3 _ a1 b1,fun c hc=>(M.sub c hc).elim (a2 c) (b2 c)⟩
    ·rw [dS,if_neg (fun h=>e4 h.1),dS,if_neg (fun h=>e4 h.1)]
     exact e2 x hx hr
  ·unfold Ko at hq
   rw [List.map_append] at hq;rcases List.mem_append.1 hq with hq|hq
   ·exact e3 q (by rw [uH];exact List.mem_append_left _ hq)
   ·obtain ⟨r',hr,rfl⟩:=List.mem_map.1 hq
    obtain ⟨u,hu,v,hv,huv,rfl⟩:=M.pair r' hr;have h1:=a2 u hu;have h2:=b2 v hv;rw [←huv] at h2;exact (hC _).IL h1 h2
theorem Pf:cnt n (fun x=>if rep x=b then a else rep x)+1≤cnt n rep:=by
 obtain ⟨LZ,QV,PG,hrb⟩:=h.rn ha hb;have hne:∀x,rep x=b→x≠a:=fun x e e2=>hab (by rw [←e,e2,PG])
 have e:(List.range n).filter (fun x=>(if rep x=b then a else rep x)==x)=((List.range n).filter fun x=>rep x==x).filter fun x=>x !=b:=by
  rw [List.filter_filter];refine List.filter_congr fun x _=> ?_
  by_cases e2:rep x=b
  ·rw [if_pos e2]
   have h1:(a==x)=false:=beq_eq_false_iff_ne.2 fun e=>hne x e2 e.symm
   rw [h1,e2];by_cases e3:b=x
   ·subst e3;simp
   ·rw [beq_eq_false_iff_ne.2 e3];simp
  ·rw [if_neg e2]
   by_cases e3:x=b
   ·exact absurd (e3▸hrb) e2
   ·have:(x !=b)=true:=bne_iff_ne.2 e3
    rw [this,Bool.true_and]
 unfold cnt;rw [e];exact List.length_filter_lt_length_iff_exists.2 ⟨b,List.mem_filter.2 ⟨List.mem_range.2 QV,by rw [hrb];simp⟩,by simp⟩
end
end
theorem h443 {h:bq} {T F n:Nat} {sb:Int→Int→Prop} (H:HM h T sb) {U:Gr} {W:List (Nat×Nat)} {o:List aT} (hF:F≤1000000):∀(c k:Nat) (wt:List aT) (par ty:List Int) (ar:List (List aF)) (rep d:Nat→Nat),
  cnt n rep≤c→wt.length≤k→wt.length+cnt n rep *F≤500000000→JI T (AO F n) sb U n W wt par ty ar rep d→
  (∃par' ty' Ed zT d',tD wt o h.Types h.bV par ty ar=some (true,par',ty',Ed)∧JI T (AO F n) sb U n W [] par' ty' Ed zT d')∨
  ((∃par' ty' Ed,tD wt o h.Types h.bV par ty ar=some (false,par',ty',Ed))∧∀C m,Rf C→Rj sb U n W C m→False):=by
 intro c
 induction c using Nat.strongRecOn with
 |ind c ihc=>
 intro k
 induction k with
 |zero=>
  intro wt par ty ar rep d hc hk hb J;have e:wt=[]:=List.length_eq_zero_iff.1 (by omega);subst e;exact .inl ⟨par,ty,ar,rep,d,Me _ _ _ _ _ _ _ (by rw [cond_neg (by rfl)]),J⟩
 |succ k ihk=>
  intro wt par ty ar rep d hc hk hb J;rcases List.eq_nil_or_concat wt with rfl|⟨w0,p,rfl⟩
  ·exact .inl ⟨par,ty,ar,rep,d,Me _ _ _ _ _ _ _ (by rw [cond_neg (by rfl)]),J⟩
  ·rw [List.concat_eq_append] at *
   have hl:(w0++[p]).length=w0.length+1:=by simp
   rw [hl] at hk hb;obtain ⟨⟨p1,p2⟩,p3,p4⟩:=J.wo p (by simp);obtain ⟨x0,hx0⟩:=Int.eq_ofNat_of_zero_le p1;obtain ⟨x1,hx1⟩:=Int.eq_ofNat_of_zero_le p3;have hx0n:x0<n:=by omega
   have hx1n:x1<n:=by omega
   have r0:p.a0.toNat=x0:=by omega
   have r1:p.a1.toNat=x1:=by omega
   obtain ⟨pa,f1,P1⟩:=Xz (TL:=h.Types) (FL:=h.bV) (ty:=ty) (ar:=ar) hx0n J.pi;obtain ⟨pb,f2,P2⟩:=Xz (TL:=h.Types) (FL:=h.bV) (ty:=ty) (ar:=ar) hx1n P1;have J2:=J.kT P2;have hgN:∀{R:Type} (k:aT→Option R),ec (w0++[p]) w0.length k=k p:=fun k=>gq (by simp) k
   have step:∀(r:Bool×List Int×List Int×List (List aF)),(bif (((rep x0:Nat):Int) !=((rep x1:Nat):Int)) then (
     Ao (f486 ((rep x0:Nat):Int) ((rep x1:Nat):Int) h.Types h.bV w0 pb ty ar) fun vw ij kM kN vt=>
      bif (!vw) then some (false,kM,kN,vt) else tD ij o h.Types h.bV kM kN vt)
     else tD w0 o h.Types h.bV pb ty ar)=some r→tD (w0++[p]) o h.Types h.bV par ty ar=some r:=by
    intro r hr;refine Me _ _ _ _ _ _ _ ?_;rw [hl,cond_pos (by rw [decide_eq_true_iff];omega),Fv (by omega),xM (by omega),Int.toNat_natCast,hgN,bY ⟨by omega,by omega⟩,hx0,f1,gp,hx1,f2,gp,List.take_left' rfl];exact hr
   by_cases hne:rep x0=rep x1
   ·have J3:=J2.skip (by rw [r0,r1];exact hne)
    rcases ihk w0 pb ty ar rep d hc (by omega) (by omega) J3 with ⟨par',ty',Ed,zT,d',g1,g2⟩|⟨⟨par',ty',Ed,g1⟩,g2⟩
    ·exact .inl ⟨par',ty',Ed,zT,d',step _ (by rw [cond_neg (by rw [hne];simp)];exact g1),g2⟩
    ·exact .inr ⟨⟨par',ty',Ed,step _ (by rw [cond_neg (by rw [hne];simp)];exact g1)⟩,g2⟩
   ·have ha:rep p.a0.toNat=rep x0:=by rw [r0]
    have hb':rep p.a1.toNat=rep x1:=by rw [r1]
    obtain ⟨LZ,QV,PG,hrb⟩:=J2.rn ha hb';have hal:rep x0<ar.length:=by rw [J.la];exact LZ
    have rC:rep x1<ar.length:=by rw [J.la];exact QV
    have CC:rep x0<ty.length:=by rw [J.lt];exact LZ
    have hbt:rep x1<ty.length:=by rw [J.lt];exact QV
    have hbp:rep x1<pb.length:=by rw [P2.len];exact QV
    have Ep:(((rep x0:Nat):Int) !=((rep x1:Nat):Int))=true:=by rw [bne_iff_ne];omega
    have ta:=J.tr _ LZ;have tb:=J.tr _ QV;rcases H.mt _ _ ta.1 ta.2 tb.1 tb.2 with ⟨t,m1,m2,m3,m4,m5⟩|⟨t,m1,m2,m3⟩
    ·have la:=(J.ao _ LZ).len;have lb:=(J.ao _ QV).len
     have M:=AJ _ (ar.getD (rep x0) []) (ar.getD (rep x1) []) (Nat.le_refl _);have J3:=J2.merge ha hb' hne (fun l hl c hc=>(hl.ok c hc).2) (fun h1 h2=>H.to.trans h1 h2) M ((J.ao _ LZ).mg (J.ao _ QV)) (H.to.rr m3) m3 m4 m5;have hcm:=Pf J2 ha hb' hne;have f3:f486 ((rep x0:Nat):Int) ((rep x1:Nat):Int) h.Types h.bV w0 pb ty ar=some (true,w0++(mg (ar.getD (rep x0) []) (ar.getD (rep x1) [])).2,pb.set (rep x1) ((rep x0:Nat):Int),ty.set (rep x0) t,ar.set (rep x0) (mg (ar.getD (rep x0) []) (ar.getD (rep x1) [])).1):=by
      refine e486 _ _ _ _ _ _ _ _ ?_;rw [By CC,By hbt];rw [show (bq.mk h.Types h.bV)=h from rfl,m1,aH,cond_neg (by rfl),By hbp,By CC,rdL hal,rdL rC,Int.toNat_natCast,Int.toNat_natCast,h486 hal _ _ _ _ _ (Nat.le_refl _) (by simp only [List.length_nil];omega) (by omega),List.nil_append]
     have hmul:(cnt n (fun x=>if rep x=rep x1 then rep x0 else rep x)+1) *F≤cnt n rep *F:=Nat.mul_le_mul_right F hcm;rw [Nat.succ_mul] at hmul;have hml:=M.le;rcases ihc _ (Nat.lt_of_lt_of_le (Nat.lt_of_succ_le hcm) hc) (w0++(mg (ar.getD (rep x0) []) (ar.getD (rep x1) [])).2).length _ _ _ _ _ _ (Nat.le_refl _) (Nat.le_refl _) (by rw [List.length_append];omega) J3 with ⟨par',ty',Ed,zT,d',g1,g2⟩|⟨⟨par',ty',Ed,g1⟩,g2⟩
     ·exact .inl ⟨par',ty',Ed,zT,d',step _ (by rw [cond_pos Ep,f3,mI,cond_neg (by rfl)];exact g1),g2⟩
     ·exact .inr ⟨⟨par',ty',Ed,step _ (by rw [cond_pos Ep,f3,mI,cond_neg (by rfl)];exact g1)⟩,g2⟩
    ·have f3:f486 ((rep x0:Nat):Int) ((rep x1:Nat):Int) h.Types h.bV w0 pb ty ar=some (false,w0,pb,ty,ar):=by
      refine e486 _ _ _ _ _ _ _ _ ?_;rw [By CC,By hbt];rw [show (bq.mk h.Types h.bV)=h from rfl,m1,aH,cond_pos (by rfl)]
     exact .inr ⟨⟨_,_,_,step _ (by rw [cond_pos Ep,f3,mI,cond_pos (by rfl)])⟩,J2.no ha hb' m3⟩
theorem XH (n:Nat) (rep:Nat→Nat):cnt n rep≤n:=by
 unfold cnt;exact Nat.le_trans (List.length_filter_le _ _) (by simp)
theorem Xy {h:bq} {T F n:Nat} {sb:Int→Int→Prop} (H:HM h T sb) {U:Gr} {W:List (Nat×Nat)} (hF:F≤1000000) {par ty:List Int} {ar:List (List aF)} {rep d:Nat→Nat} {a b:Nat} (ha:a<n) (hb:b<n) (hn:n *F≤400000000) (J:JI T (AO F n) sb U n W [] par ty ar rep d):
  (∃par' ty' Ed zT d',f443 (a:Int) (b:Int) h.Types h.bV par ty ar=some (true,par',ty',Ed)∧JI T (AO F n) sb U n (W++[(a,b)]) [] par' ty' Ed zT d')∨
  ((∃par' ty' Ed,f443 (a:Int) (b:Int) h.Types h.bV par ty ar=some (false,par',ty',Ed))∧∀C m,Rf C→Rj sb U n (W++[(a,b)]) C m→False):=by
 have hm:cnt n rep *F≤n *F:=Nat.mul_le_mul_right F (XH n rep);rcases h443 H (o:=[]) hF (cnt n rep) 1 [⟨a,b⟩] par ty ar rep d (Nat.le_refl _) (by simp) (by simp only [List.length_singleton];omega) (J.start ha hb) with ⟨par',ty',Ed,zT,d',g1,g2⟩|⟨⟨par',ty',Ed,g1⟩,g2⟩
 ·exact .inl ⟨par',ty',Ed,zT,d',e443 _ _ _ _ _ _ _ g1,g2⟩
 ·exact .inr ⟨⟨par',ty',Ed,e443 _ _ _ _ _ _ _ g1⟩,g2⟩
def gH (ty:List Int) (ar:List (List aF)) (rep:Nat→Nat):Gr:=⟨fun x=>(ar.getD x []).map fun a=>(a.aP,rep a.To.toNat),fun x=>ty.getD x 0⟩
theorem JI.uni {T F n:Nat} {sb:Int→Int→Prop} {U:Gr} {W:List (Nat×Nat)} {par ty:List Int} {ar:List (List aF)} {rep d:Nat→Nat} (J:JI T (AO F n) sb U n W [] par ty ar rep d) (hU:Bd U.sc n):Wn T F sb U n W (gH ty ar rep) rep:=by
 refine ⟨⟨fun x hx p hp=> ?_,fun x hx=> ?_,fun x hx p hp=> ?_,fun x hx=>J.tr x hx⟩,J.pi.rl,J.pi.rr,fun x hx p hp=> ?_,⟨J.sty,fun x hx p hp=> ?_,fun p hp=>(J.seq p hp).done⟩,fun C m hC hs x hx=> ?_⟩
 ·obtain ⟨a,ha,rfl⟩:=List.mem_map.1 hp
  exact J.pi.rl _ (by have:=((J.ao x hx).ok a ha).2;omega)
 ·show vc (List.map _ _)
  unfold vc;rw [List.pairwise_map];exact (J.ao x hx).xG
 ·obtain ⟨a,ha,rfl⟩:=List.mem_map.1 hp
  exact ((J.ao x hx).ok a ha).1
 ·obtain ⟨a,ha,rfl⟩:=List.mem_map.1 hp
  exact J.pi.rr _ (by have:=((J.ao x hx).ok a ha).2;omega)
 ·obtain ⟨a,ha,h1,h2⟩:=J.Zz x hx p hp
  refine List.mem_map.2 ⟨a,ha,?_⟩;rw [h1,h2.done]
 ·obtain ⟨e1,e2,_⟩:=J.aW C m hC hs
  obtain ⟨e3,e4⟩:=e2 (rep x) (J.pi.rl x hx) (J.pi.rr x hx);rw [e1 x hx] at e3 e4;refine ⟨e1 x hx,e3,fun p hp=> ?_⟩;obtain ⟨a,ha,rfl⟩:=List.mem_map.1 hp;show (a.aP,m (rep a.To.toNat))∈_;rw [e1 _ (by have:=((J.ao _ (J.pi.rl x hx)).ok a ha).2;omega)];exact e4 a ha
end Go.Proofs.YthppjmoncapdfaaGreatDoor.cl.pf
