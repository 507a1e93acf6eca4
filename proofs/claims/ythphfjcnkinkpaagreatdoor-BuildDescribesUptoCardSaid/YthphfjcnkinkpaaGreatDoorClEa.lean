/- Runs in steps. -/
import Derived.Test.YthphfjcnkinkpaaGreatDoorClT
set_option linter.all false
namespace Go.Proofs.YthphfjcnkinkpaaGreatDoor.cl.pf
open Go Go.AM
def eqs {q w:Type} (e:q->w->Bool):List q->List w->Bool
 |[],[]=>true
 |x::l,y::m=>e x y&&eqs e l m
 |_,_=>false
def F6 {q:Type} {e:q->q->Bool} (h:∀x y,e x y=true->x=y):∀{l m:List q},eqs e l m=true->l=m
 |[],[],_=>rfl
 |x::l,y::m,k=>by unfold eqs at k;rw[aV] at k;rw[h _ _ k.1,F6 h k.2]
 |[],_::_,k=>by cases k
 |_::_,[],k=>by cases k
def eqA:Nat->AV->AV->Bool
 |0,_,_=>false
 |k+1,a,b=>match a,b with
  | .int i x, .int j y=>decide (i=j)&&decide (x=y)
  | .str s, .str t=>eqs (λa b=>decide (a=b)) s t
  | .bool x, .bool y=>decide (x=y)
  | .dG n xs, .dG m l=>decide (n=m)&&eqs (eqs (eqA k)) xs l
  | .agg xs, .agg l=>eqs (eqA k) xs l
  | .gX xs, .gX l=>eqs (eqA k) xs l
  |_,_=>false
def abh:∀{k:Nat} (a b:AV),eqA k a b=true->a=b:=by intro k;induction k with
 |zero=>intro a b h;cases h
 |succ k l=>
  intro a b h;unfold eqA at h;split at h<;>try simp only[aV,bg] at h
  .rw[h.1,h.2]
  .rw[F6 (λ_ _ h=>lX h) h]
  .rw[h]
  .rw[h.1,F6 (λ_ _ h=>F6 l h) h.2]
  .rw[F6 l h]
  .rw[F6 l h]
  .cases h
def eqV (s:SV) (v:AV):Bool:=match s with
 | .pv x=>eqA 9 x v
 |_=>false
def abi:∀{a:List SV} {k:List AV},eqs eqV a k=true->a=k.map .pv
 |[],[],_=>rfl
 |x::l,y::m,h=>by
  unfold eqs at h;rw[aV] at h;have q:=h.1;unfold eqV at q;split at q
  .rw[abh _ _ q,abi h.2];rfl
  .cases q
 |[],_::_,k=>by cases k
 |_::_,[],k=>by cases k
def memo (T:eN):eN:=λf a l=>match T f a l with
 |some r=>some r
 |none=>gR f a l
def RF (T:eN):Prop:=∀f a l r,T f a l=some r->Rn f a l=some r
def adt {T:eN} (h:RF T):∀n {f:Nat} {a:List SV} {l:List (Nat×Ob)} {r:AV×List (Nat×Ob)},qB P H (memo T) n f a l=some r->Rn f a l=some r:=by intro n;induction n with
 |zero=>intro f a l r q;cases q
 |succ n L=>
  intro f a l r q;simp only[qB] at q;split at q
  .rename_i x w;cases q;unfold memo at w;split at w
   .rename_i I;cases w;exact h _ _ _ _ I
   .exact tZ w
  .rename_i w;split at q
   .rename_i fn G;split at q
    .rename_i c B;obtain⟨D,q⟩:=cv q;split at q
     .rename_i e N F;obtain⟨S,z,k⟩:=Ew c F;refine HE ?_ G B D (k _ n (λs K=>L (z s K)) (aZ _)) q;unfold memo at w;split at w
      .cases w
      .exact w
     .cases q
    .cases q
   .cases q
def look:List (List AV×AV)->List SV->Option AV
 |[],_=>none
 |(k,r)::t,a=>bif eqs eqV a k then some r else look t a
def Td {a:List SV} {r:AV}:∀{t:List (List AV×AV)},look t a=some r->∃k,(k,r)∈t/\a=k.map .pv
 |[],h=>by cases h
 |(k,x)::t,h=>by unfold look at h;cases e:eqs eqV a k with
  |true=>rw[e] at h;cases h;exact⟨k,gz ..,abi e⟩
  |false=>rw[e] at h;obtain⟨k',l,q⟩:=Td h;exact⟨k',dB _ l,q⟩
def add (f:Nat) (l:List (List AV×AV)) (T:eN):eN:=λg a o=>bif Nat.beq f g&&o.isEmpty then match look l a with
 |some r=>some (r,[])
 |none=>T g a o
 else T g a o
noncomputable def allOk (T:eN) (f:Nat) (l:List (List AV×AV)):Bool:=l.all λe=>match qB P H (memo T) 345 f (e.1.map .pv) [] with
 |some (r,[])=>eqA 9 r e.2
 |_=>false
def ok_nil:RF λ_ _ _=>none:=λ_ _ _ _ h=>by cases h
def aau (f:Nat) (l:List (List AV×AV)):Prop:=∀e∈l,Rn f (e.1.map .pv) []=some (e.2,[])
def ent_ok {T:eN} {f:Nat} {l:List (List AV×AV)} (h:RF T) (k:allOk T f l=true):aau f l:=λe w=>by
 have:=cI.1 k _ w;split at this
 .rename_i x q;rw[abh _ _ this] at q;exact adt h 345 q
 .cases this
def ok_add {T:eN} {f:Nat} {l:List (List AV×AV)} (h:RF T) (k:aau f l):RF (add f l T):=λg a o r q=>by unfold add at q;cases e:Nat.beq f g&&o.isEmpty with
 |false=>rw[e] at q;exact h _ _ _ _ q
 |true=>
  rw[e,ak] at q;rw[aV,y7] at e;have e1:=wN e.1;have w:=e.2;subst e1 w;split at q
  .rename_i D B;cases q;obtain⟨k',z,rfl⟩:=Td B;exact k _ z
  .exact h _ _ _ _ q
