/- Runs in steps. -/
import Derived.Test.YthppjmoncapdfaaGreatDoorClT
set_option linter.all false
namespace Go.Proofs.YthppjmoncapdfaaGreatDoor.cl.pf
open Go Go.AM
def eqs {α β:Type} (e:α→β→Bool):List α→List β→Bool
 |[],[]=>true
 |x::l,y::m=>e x y&&eqs e l m
 |_,_=>false
theorem EX {α:Type} {e:α→α→Bool} (h:∀x y,e x y=true→x=y):∀{l m:List α},eqs e l m=true→l=m
 |[],[],_=>rfl
 |x::l,y::m,k=>by
  unfold eqs at k;rw [aF] at k;rw [h _ _ k.1,EX h k.2]
 |[],_::_,k=>by cases k
 |_::_,[],k=>by cases k
def eqA:Nat→AV→AV→Bool
 |0,_,_=>false
 |k+1,a,b=>match a,b with
  | .int i x, .int j y=>decide (i=j)&&decide (x=y)
  | .str s, .str t=>eqs (fun a b=>decide (a=b)) s t
  | .bool x, .bool y=>decide (x=y)
  | .eH n xs, .eH m ys=>decide (n=m)&&eqs (eqs (eqA k)) xs ys
  | .agg xs, .agg ys=>eqs (eqA k) xs ys
  | .mu xs, .mu ys=>eqs (eqA k) xs ys
  |_,_=>false
theorem ZR:∀{k:Nat} (a b:AV),eqA k a b=true→a=b:=by
 intro k
 induction k with
 |zero=>intro a b h;cases h
 |succ k ih=>
  intro a b h;unfold eqA at h;split at h<;>try simp only [aF,bB] at h
  ·rw [h.1,h.2]
  ·rw [EX (fun _ _ h=>lM h) h]
  ·rw [h]
  ·rw [h.1,EX (fun _ _ h=>EX ih h) h.2]
  ·rw [EX ih h]
  ·rw [EX ih h]
  ·cases h
def eqV (s:SV) (v:AV):Bool:=match s with
 | .pv x=>eqA 9 x v
 |_=>false
theorem ZS:∀{a:List SV} {k:List AV},eqs eqV a k=true→a=k.map .pv
 |[],[],_=>rfl
 |x::l,y::m,h=>by
  unfold eqs at h;rw [aF] at h;have h1:=h.1;unfold eqV at h1;split at h1
  ·rw [ZR _ _ h1,ZS h.2];rfl
  ·cases h1
 |[],_::_,k=>by cases k
 |_::_,[],k=>by cases k
def memo (T:dQ):dQ:=fun f a l=>match T f a l with
 |some r=>some r
 |none=>fk f a l
def CO (T:dQ):Prop:=∀f a l r,T f a l=some r→Rn f a l=some r
theorem abS {T:dQ} (h:CO T):∀n {f:Nat} {a:List SV} {l:List (Nat×Ob)} {r:AV×List (Nat×Ob)},ot P H (memo T) n f a l=some r→Rn f a l=some r:=by
 intro n
 induction n with
 |zero=>intro f a l r hv;cases hv
 |succ n ih=>
  intro f a l r hv;simp only [ot] at hv;split at hv
  ·rename_i x hx
   cases hv;unfold memo at hx;split at hx
   ·rename_i hl
    cases hx;exact h _ _ _ _ hl
   ·exact qU hx
  ·rename_i hx
   split at hv
   ·rename_i fn hf
    split at hv
    ·rename_i c hb
     obtain ⟨hc,hv⟩:=bU hv;split at hv
     ·rename_i e st he
      obtain ⟨S,hS,k⟩:=DG c he;refine Gt ?_ hf hb hc (k _ n (fun s hs=>ih (hS s hs)) (aS _)) hv;unfold memo at hx;split at hx
      ·cases hx
      ·exact hx
     ·cases hv
    ·cases hv
   ·cases hv
def look:List (List AV×AV)→List SV→Option AV
 |[],_=>none
 |(k,r)::t,a=>bif eqs eqV a k then some r else look t a
theorem QK {a:List SV} {r:AV}:∀{t:List (List AV×AV)},look t a=some r→∃k,(k,r)∈t∧a=k.map .pv
 |[],h=>by cases h
 |(k,x)::t,h=>by
  unfold look at h;cases e:eqs eqV a k with
  |true=>
   rw [e] at h;cases h;exact ⟨k,nv ..,ZS e⟩
  |false=>
   rw [e] at h;obtain ⟨k',h1,h2⟩:=QK h;exact ⟨k',dW _ h1,h2⟩
def add (f:Nat) (l:List (List AV×AV)) (T:dQ):dQ:=fun g a o=>bif Nat.beq f g&&o.isEmpty then match look l a with
 |some r=>some (r,[])
 |none=>T g a o
 else T g a o
noncomputable def mw (T:dQ) (f:Nat) (l:List (List AV×AV)):Bool:=l.all fun e=>match ot P H (memo T) 300 f (e.1.map .pv) [] with
 |some (r,[])=>eqA 9 r e.2
 |_=>false
theorem Nt:CO fun _ _ _=>none:=fun _ _ _ _ h=>by cases h
def EntOK (f:Nat) (l:List (List AV×AV)):Prop:=∀e∈l,Rn f (e.1.map .pv) []=some (e.2,[])
theorem nD {T:dQ} {f:Nat} {l:List (List AV×AV)} (h:CO T) (k:mw T f l=true):EntOK f l:=fun e he=>by
 have:=cg.1 k _ he;split at this
 ·rename_i x hx
  rw [ZR _ _ this] at hx;exact abS h 300 hx
 ·cases this
theorem qg {T:dQ} {f:Nat} {l:List (List AV×AV)} (h:CO T) (k:EntOK f l):CO (add f l T):=fun g a o r hm=>by
 unfold add at hm;cases e:Nat.beq f g&&o.isEmpty with
 |false=>rw [e] at hm;exact h _ _ _ _ hm
 |true=>
  rw [e,ai] at hm;rw [aF,ud] at e;have e1:=gF e.1;have e2:=e.2;subst e1 e2;split at hm
  ·rename_i r' hl
   cases hm;obtain ⟨k',h1,rfl⟩:=QK hl;exact k _ h1
  ·exact h _ _ _ _ hm
end Go.Proofs.YthppjmoncapdfaaGreatDoor.cl.pf
