/- Runs in steps. -/
import Derived.Test.YthppjmoncapdfaaGreatDoorClT
set_option linter.all false
namespace Go.Proofs.YthppjmoncapdfaaGreatDoor.cl.pf
open Go Go.AM
def eqs {q w:Type} (e:q->w->Bool):List q->List w->Bool
 |[],[]=>true
 |x::l,y::m=>e x y&&eqs e l m
 |_,_=>false
def zf {q:Type} {e:q->q->Bool} (h:∀x y,e x y=true->x=y):∀{l m:List q},eqs e l m=true->l=m
 |[],[],_=>rfl
 |x::l,y::m,k=>by unfold eqs at k;rw[aF] at k;rw[h _ _ k.1,zf h k.2]
 |[],_::_,k=>by cases k
 |_::_,[],k=>by cases k
def TP:Nat->AV->AV->Bool
 |0,_,_=>false
 |k+1,a,b=>match a,b with
  | .int i x, .int j y=>decide (i=j)&&decide (x=y)
  | .str s, .str t=>eqs (λa b=>decide (a=b)) s t
  | .bool x, .bool y=>decide (x=y)
  | .c4 n xs, .c4 m l=>decide (n=m)&&eqs (eqs (TP k)) xs l
  | .agg xs, .agg l=>eqs (TP k) xs l
  | .jy xs, .jy l=>eqs (TP k) xs l
  |_,_=>false
def Ov:∀{k:Nat} (a b:AV),TP k a b=true->a=b:=by intro k;induction k with
 |zero=>intro a b h;cases h
 |succ k l=>
  intro a b h;unfold TP at h;split at h<;>try simp only[aF,bG] at h
  .rw[h.1,h.2]
  .rw[zf (λ_ _ h=>j4 h) h]
  .rw[h]
  .rw[h.1,zf (λ_ _ h=>zf l h) h.2]
  .rw[zf l h]
  .rw[zf l h]
  .cases h
def eqV (s:SV) (v:AV):Bool:=match s with
 | .pv x=>TP 9 x v
 |_=>false
def Ow:∀{a:List SV} {k:List AV},eqs eqV a k=true->a=k.map .pv
 |[],[],_=>rfl
 |x::l,y::m,h=>by
  unfold eqs at h;rw[aF] at h;have q:=h.1;unfold eqV at q;split at q
  .rw[Ov _ _ q,Ow h.2];rfl
  .cases q
 |[],_::_,k=>by cases k
 |_::_,[],k=>by cases k
def memo (T:cr):cr:=λf a l=>match T f a l with
 |some r=>some r
 |none=>dm f a l
def xF (T:cr):Prop:=∀f a l r,T f a l=some r->Rn f a l=some r
def PW {T:cr} (h:xF T):∀n {f:Nat} {a:List SV} {l:List (Nat×Ob)} {r:AV×List (Nat×Ob)},kH P H (memo T) n f a l=some r->Rn f a l=some r:=by intro n;induction n with
 |zero=>intro f a l r q;cases q
 |succ n L=>
  intro f a l r q;simp only[kH] at q;split at q
  .rename_i x w;cases q;unfold memo at w;split at w
   .rename_i I;cases w;exact h _ _ _ _ I
   .exact mR w
  .rename_i w;split at q
   .rename_i fn G;split at q
    .rename_i c B;obtain⟨D,q⟩:=aZ q;split at q
     .rename_i e N F;obtain⟨S,z,k⟩:=yf c F;refine Ap ?_ G B D (k _ n (λs K=>L (z s K)) (aJ _)) q;unfold memo at w;split at w
      .cases w
      .exact w
     .cases q
    .cases q
   .cases q
def look:List (List AV×AV)->List SV->Option AV
 |[],_=>none
 |(k,r)::t,a=>bif eqs eqV a k then some r else look t a
def HU {a:List SV} {r:AV}:∀{t:List (List AV×AV)},look t a=some r->∃k,(k,r)∈t/\a=k.map .pv
 |[],h=>by cases h
 |(k,x)::t,h=>by unfold look at h;cases e:eqs eqV a k with
  |true=>rw[e] at h;cases h;exact⟨k,sW ..,Ow e⟩
  |false=>rw[e] at h;obtain⟨k',l,q⟩:=HU h;exact⟨k',cK _ l,q⟩
def add (f:Nat) (l:List (List AV×AV)) (T:cr):cr:=λg a o=>bif Nat.beq f g&&o.isEmpty then match look l a with
 |some r=>some (r,[])
 |none=>T g a o
 else T g a o
noncomputable def jA (T:cr) (f:Nat) (l:List (List AV×AV)):Bool:=l.all λe=>match kH P H (memo T) 300 f (e.1.map .pv) [] with
 |some (r,[])=>TP 9 r e.2
 |_=>false
def E7:xF λ_ _ _=>none:=λ_ _ _ _ h=>by cases h
def SB (f:Nat) (l:List (List AV×AV)):Prop:=∀e∈l,Rn f (e.1.map .pv) []=some (e.2,[])
def j6 {T:cr} {f:Nat} {l:List (List AV×AV)} (h:xF T) (k:jA T f l=true):SB f l:=λe w=>by
 have:=cH.1 k _ w;split at this
 .rename_i x q;rw[Ov _ _ this] at q;exact PW h 300 q
 .cases this
def lT {T:cr} {f:Nat} {l:List (List AV×AV)} (h:xF T) (k:SB f l):xF (add f l T):=λg a o r q=>by unfold add at q;cases e:Nat.beq f g&&o.isEmpty with
 |false=>rw[e] at q;exact h _ _ _ _ q
 |true=>
  rw[e,ai] at q;rw[aF,pX] at e;have w:=eN e.1;have z:=e.2;subst w z;split at q
  .rename_i F D;cases q;obtain⟨k',B,rfl⟩:=HU D;exact k _ B
  .exact h _ _ _ _ q
