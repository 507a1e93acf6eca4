/- Runs in steps. -/
import Derived.Test.YthppjmoncapdfaaGreatDoorClT
set_option linter.all false
namespace Go.Proofs.YthppjmoncapdfaaGreatDoor.cl.pf
open Go Go.AM
def eqs {q w:Type} (e:q->w->Bool):List q->List w->Bool
 |[],[]=>true
 |x::l,y::m=>e x y&&eqs e l m
 |_,_=>false
def EO {q:Type} {e:q->q->Bool} (h:∀x y,e x y=true->x=y):∀{l m:List q},eqs e l m=true->l=m
 |[],[],_=>rfl
 |x::l,y::m,k=>by unfold eqs at k;rw[aJ] at k;rw[h _ _ k.1,EO h k.2]
 |[],_::_,k=>by cases k
 |_::_,[],k=>by cases k
def eqA:Nat->AV->AV->Bool
 |0,_,_=>false
 |k+1,a,b=>match a,b with
  | .int i x, .int j y=>decide (i=j)&&decide (x=y)
  | .str s, .str t=>eqs (λa b=>decide (a=b)) s t
  | .bool x, .bool y=>decide (x=y)
  | .dK n xs, .dK m l=>decide (n=m)&&eqs (eqs (eqA k)) xs l
  | .agg xs, .agg l=>eqs (eqA k) xs l
  | .lR xs, .lR l=>eqs (eqA k) xs l
  |_,_=>false
def Z8:∀{k:Nat} (a b:AV),eqA k a b=true->a=b:=by intro k;induction k with
 |zero=>intro a b h;cases h
 |succ k l=>
  intro a b h;unfold eqA at h;split at h<;>try simp only[aJ,bH] at h
  .rw[h.1,h.2]
  .rw[EO (λ_ _ h=>fO h) h]
  .rw[h]
  .rw[h.1,EO (λ_ _ h=>EO l h) h.2]
  .rw[EO l h]
  .rw[EO l h]
  .cases h
def eqV (s:SV) (v:AV):Bool:=match s with
 | .pv x=>eqA 9 x v
 |_=>false
def Z9:∀{a:List SV} {k:List AV},eqs eqV a k=true->a=k.map .pv
 |[],[],_=>rfl
 |x::l,y::m,h=>by
  unfold eqs at h;rw[aJ] at h;have q:=h.1;unfold eqV at q;split at q
  .rw[Z8 _ _ q,Z9 h.2];rfl
  .cases q
 |[],_::_,k=>by cases k
 |_::_,[],k=>by cases k
def memo (T:dX):dX:=λf a l=>match T f a l with
 |some r=>some r
 |none=>eX f a l
def CI (T:dX):Prop:=∀f a l r,T f a l=some r->Rn f a l=some r
def acB {T:dX} (h:CI T):∀n {f:Nat} {a:List SV} {l:List (Nat×Ob)} {r:AV×List (Nat×Ob)},nT P H (memo T) n f a l=some r->Rn f a l=some r:=by intro n;induction n with
 |zero=>intro f a l r q;cases q
 |succ n L=>
  intro f a l r q;simp only[nT] at q;split at q
  .rename_i x w;cases q;unfold memo at w;split at w
   .rename_i I;cases w;exact h _ _ _ _ I
   .exact mL w
  .rename_i w;split at q
   .rename_i fn G;split at q
    .rename_i c B;obtain⟨D,q⟩:=bV q;split at q
     .rename_i e N F;obtain⟨S,z,k⟩:=Dw c F;refine Gh ?_ G B D (k _ n (λs K=>L (z s K)) (aU _)) q;unfold memo at w;split at w
      .cases w
      .exact w
     .cases q
    .cases q
   .cases q
def look:List (List AV×AV)->List SV->Option AV
 |[],_=>none
 |(k,r)::t,a=>bif eqs eqV a k then some r else look t a
def Ri {a:List SV} {r:AV}:∀{t:List (List AV×AV)},look t a=some r->∃k,(k,r)∈t/\a=k.map .pv
 |[],h=>by cases h
 |(k,x)::t,h=>by unfold look at h;cases e:eqs eqV a k with
  |true=>rw[e] at h;cases h;exact⟨k,qS ..,Z9 e⟩
  |false=>rw[e] at h;obtain⟨k',l,q⟩:=Ri h;exact⟨k',eo _ l,q⟩
def add (f:Nat) (l:List (List AV×AV)) (T:dX):dX:=λg a o=>bif Nat.beq f g&&o.isEmpty then match look l a with
 |some r=>some (r,[])
 |none=>T g a o
 else T g a o
noncomputable def lS (T:dX) (f:Nat) (l:List (List AV×AV)):Bool:=l.all λe=>match nT P H (memo T) 300 f (e.1.map .pv) [] with
 |some (r,[])=>eqA 9 r e.2
 |_=>false
def Ny:CI λ_ _ _=>none:=λ_ _ _ _ h=>by cases h
def EntOK (f:Nat) (l:List (List AV×AV)):Prop:=∀e∈l,Rn f (e.1.map .pv) []=some (e.2,[])
def mZ {T:dX} {f:Nat} {l:List (List AV×AV)} (h:CI T) (k:lS T f l=true):EntOK f l:=λe w=>by
 have:=cz.1 k _ w;split at this
 .rename_i x q;rw[Z8 _ _ this] at q;exact acB h 300 q
 .cases this
def pQ {T:dX} {f:Nat} {l:List (List AV×AV)} (h:CI T) (k:EntOK f l):CI (add f l T):=λg a o r q=>by unfold add at q;cases e:Nat.beq f g&&o.isEmpty with
 |false=>rw[e] at q;exact h _ _ _ _ q
 |true=>
  rw[e,ai] at q;rw[aJ,tR] at e;have e1:=gz e.1;have w:=e.2;subst e1 w;split at q
  .rename_i D B;cases q;obtain⟨k',z,rfl⟩:=Ri B;exact k _ z
  .exact h _ _ _ _ q
