/- Runs in steps. -/
import Derived.Test.YthppjmoncapdfaaGreatDoorClT
set_option linter.unusedVariables false
set_option linter.unusedSimpArgs false
namespace Go.Proofs.YthppjmoncapdfaaGreatDoor.cl.pf
open Go Go.AM
def eqs {α β:Type} (e:α→β→Bool):List α→List β→Bool
 |[],[]=>true
 |x::l,y::m=>e x y&&eqs e l m
 |_,_=>false
theorem y7 {α:Type} {e:α→α→Bool} (h:∀x y,e x y=true→x=y):∀{l m:List α},eqs e l m=true→l=m
 |[],[],_=>rfl
 |x::l,y::m,k=>by
  unfold eqs at k;rw [Bool.and_eq_true] at k;rw [h _ _ k.1,y7 h k.2]
 |[],_::_,k=>by cases k
 |_::_,[],k=>by cases k
def XK:Nat→AV→AV→Bool
 |0,_,_=>false
 |k+1,a,b=>match a,b with
  | .int i x, .int j y=>decide (i=j)&&decide (x=y)
  | .str s, .str t=>eqs (fun a b=>decide (a=b)) s t
  | .bool x, .bool y=>decide (x=y)
  | .aW n xs, .aW m ys=>decide (n=m)&&eqs (eqs (XK k)) xs ys
  | .agg xs, .agg ys=>eqs (XK k) xs ys
  | .dI xs, .dI ys=>eqs (XK k) xs ys
  |_,_=>false
theorem RV:∀{k:Nat} (a b:AV),XK k a b=true→a=b:=by
 intro k
 induction k with
 |zero=>intro a b h;cases h
 |succ k ih=>
  intro a b h;unfold XK at h;split at h<;>try simp only [Bool.and_eq_true,decide_eq_true_iff] at h
  ·rw [h.1,h.2]
  ·rw [y7 (fun _ _ h=>of_decide_eq_true h) h]
  ·rw [h]
  ·rw [h.1,y7 (fun _ _ h=>y7 ih h) h.2]
  ·rw [y7 ih h]
  ·rw [y7 ih h]
  ·cases h
def eqV (s:SV) (v:AV):Bool:=match s with
 | .pv x=>XK 9 x v
 |_=>false
theorem RW:∀{a:List SV} {k:List AV},eqs eqV a k=true→a=k.map .pv
 |[],[],_=>rfl
 |x::l,y::m,h=>by
  unfold eqs at h;rw [Bool.and_eq_true] at h;have h1:=h.1;unfold eqV at h1;split at h1
  ·rw [RV _ _ h1,RW h.2];rfl
  ·cases h1
 |[],_::_,k=>by cases k
 |_::_,[],k=>by cases k
def memo (T:cL):cL:=fun f a l=>match T f a l with
 |some r=>some r
 |none=>dg f a l
def xC (T:cL):Prop:=∀f a l r,T f a l=some r→Rn f a l=some r
theorem TB {T:cL} (h:xC T):∀n {f:Nat} {a:List SV} {l:List (Nat×Ob)} {r:AV×List (Nat×Ob)},jo P H (memo T) n f a l=some r→Rn f a l=some r:=by
 intro n
 induction n with
 |zero=>intro f a l r hv;cases hv
 |succ n ih=>
  intro f a l r hv;simp only [jo] at hv;split at hv
  ·rename_i x hx
   cases hv;unfold memo at hx;split at hx
   ·rename_i hl
    cases hx;exact h _ _ _ _ hl
   ·exact lC hx
  ·rename_i hx
   split at hv
   ·rename_i fn hf
    split at hv
    ·rename_i c hb
     obtain ⟨hc,hv⟩:=bz hv;split at hv
     ·rename_i e st he
      obtain ⟨S,hS,k⟩:=xP c he;refine AX ?_ hf hb hc (k _ n (fun s hs=>ih (hS s hs)) (Nat.le_refl _)) hv;unfold memo at hx;split at hx
      ·cases hx
      ·exact hx
     ·cases hv
    ·cases hv
   ·cases hv
def look:List (List AV×AV)→List SV→Option AV
 |[],_=>none
 |(k,r)::t,a=>bif eqs eqV a k then some r else look t a
theorem J9 {a:List SV} {r:AV}:∀{t:List (List AV×AV)},look t a=some r→∃k,(k,r)∈t∧a=k.map .pv
 |[],h=>by cases h
 |(k,x)::t,h=>by
  unfold look at h;cases e:eqs eqV a k with
  |true=>
   rw [e] at h;cases h;exact ⟨k,List.mem_cons_self ..,RW e⟩
  |false=>
   rw [e] at h;obtain ⟨k',h1,h2⟩:=J9 h;exact ⟨k',List.mem_cons_of_mem _ h1,h2⟩
def add (f:Nat) (l:List (List AV×AV)) (T:cL):cL:=fun g a o=>bif Nat.beq f g&&o.isEmpty then match look l a with
 |some r=>some (r,[])
 |none=>T g a o
 else T g a o
noncomputable def gY (T:cL) (f:Nat) (l:List (List AV×AV)):Bool:=l.all fun e=>match jo P H (memo T) 300 f (e.1.map .pv) [] with
 |some (r,[])=>XK 9 r e.2
 |_=>false
theorem GB:xC fun _ _ _=>none:=fun _ _ _ _ h=>by cases h
def Wl (f:Nat) (l:List (List AV×AV)):Prop:=∀e∈l,Rn f (e.1.map .pv) []=some (e.2,[])
theorem iW {T:cL} {f:Nat} {l:List (List AV×AV)} (h:xC T) (k:gY T f l=true):Wl f l:=fun e he=>by
 have:=List.all_eq_true.1 k _ he;split at this
 ·rename_i x hx
  rw [RV _ _ this] at hx;exact TB h 300 hx
 ·cases this
theorem kn {T:cL} {f:Nat} {l:List (List AV×AV)} (h:xC T) (k:Wl f l):xC (add f l T):=fun g a o r hm=>by
 unfold add at hm;cases e:Nat.beq f g&&o.isEmpty with
 |false=>rw [e] at hm;exact h _ _ _ _ hm
 |true=>
  rw [e,cond_true] at hm;rw [Bool.and_eq_true,List.isEmpty_iff] at e;have e1:=Nat.eq_of_beq_eq_true e.1;have e2:=e.2;subst e1 e2;split at hm
  ·rename_i r' hl
   cases hm;obtain ⟨k',h1,rfl⟩:=J9 hl;exact k _ h1
  ·exact h _ _ _ _ hm
end Go.Proofs.YthppjmoncapdfaaGreatDoor.cl.pf
