/- THE ABSTRACT MACHINE. -/
import Derived.Test.YtfoddgpndoeeaaaGreatDoorAmT
set_option linter.unusedVariables false
namespace Go.AM
class c4 {T α:Type} (enc:T→α):Prop where
 inj:∀a b,enc a=enc b→a=b
def aJ (k:IntKind) (a:Int):List AV:=[.int k a]
def aI (s:List UInt8):List AV:=[.str s]
def Bz (b:Bool):List AV:=[.bool b]
def ct {T:Type} (sz:Nat) (enc:T→List AV) (l:List T):List AV:=[.cE sz (l.map enc)]
theorem map_inj {T α:Type} {enc:T→α} (h:∀a b,enc a=enc b→a=b):∀(l m:List T),l.map enc=m.map enc→l=m:=by
 intro l
 induction l with
 |nil=>intro m hm;cases m with
  |nil=>rfl
  |cons x m=>simp at hm
 |cons x l ih=>intro m hm;cases m with
  |nil=>simp at hm
  |cons y m=>
   simp only [List.map_cons,List.cons.injEq] at hm;rw [h _ _ hm.1,ih _ hm.2]
instance {k:IntKind}:c4 (aJ k):=⟨fun a b h=>by simpa [aJ] using h⟩
instance:c4 aI:=⟨fun a b h=>by simpa [aI] using h⟩
instance:c4 Bz:=⟨fun a b h=>by simpa [Bz] using h⟩
instance {T α:Type} {enc:T→α} [c4 enc]:c4 (List.map enc):=⟨map_inj c4.inj⟩
instance {T:Type} {sz:Nat} {enc:T→List AV} [c4 enc]:c4 (ct sz enc):=⟨fun a b h=>by
 simp only [ct,List.cons.injEq,AV.cE.injEq,and_true,true_and] at h
 exact map_inj c4.inj _ _ h⟩
section
variable {R:Type}
theorem dX {α T:Type} {enc:T→α} [c4 enc] (d:T) (k:T→Option R):eS enc (enc d) k=k d:=PI c4.inj d k
theorem ES (r:AV) (k:AV→Option R):nK (some (r,[])) k=k r:=KO rfl k
theorem wY (nm e sz:Nat) (r:AV) (xs:List (List AV)) (k:AV→List (List AV)→Option R):wX (some (r,[(nm, .row e sz xs)])) nm e sz k=k r xs:=KP rfl k
end
theorem L9 (n:Int):IntKind.wrap .i64 n=if 9223372036854775808≤n % 18446744073709551616 then n % 18446744073709551616-18446744073709551616 else n % 18446744073709551616:=by
 show (if (true&&decide (n % 18446744073709551616≥9223372036854775808))=true then n % 18446744073709551616-18446744073709551616 else n % 18446744073709551616)=_;simp only [Bool.true_and,decide_eq_true_eq,ge_iff_le]
theorem fo {n:Int} (h0: -9223372036854775808≤n) (h1:n≤9223372036854775807):IntKind.wrap .i64 n=n:=by
 rw [L9];split<;>omega
theorem JJ (n:Int):IntKind.wrap .u64 n=n % 18446744073709551616:=by
 show (if (false&&decide (n % 18446744073709551616≥9223372036854775808))=true then n % 18446744073709551616-18446744073709551616 else n % 18446744073709551616)=_;simp
theorem kM {n:Int} (h0:0≤n) (h1:n≤18446744073709551615):IntKind.wrap .u64 n=n:=by
 rw [JJ];omega
theorem Ma (n:Int):IntKind.wrap .u8 n=n % 256:=by
 show (if (false&&decide (n % 256≥128))=true then n % 256-256 else n % 256)=_;simp
theorem cg {i:Nat} (h:i<4611686018427387904):IntKind.wrap .i64 ((i:Int)+1)=((i+1:Nat):Int):=by
 rw [fo (by omega) (by omega)];omega
theorem cond_pos {α:Type} {b:Bool} (h:b=true) (x y:α):cond b x y=x:=by subst h;rfl
theorem cond_neg {α:Type} {b:Bool} (h:b=false) (x y:α):cond b x y=y:=by subst h;rfl
end Go.AM
set_option linter.unusedVariables false
namespace Go.AM
theorem vA (a:List UInt8):Op.bytesLess a a=false:=by
 induction a with
 |nil=>rfl
 |cons x a ih=>simp [Op.bytesLess,ih]
theorem kX:∀(a b:List UInt8),Op.bytesLess a b=false→a≠b→Op.bytesLess b a=true:=by
 intro a
 induction a with
 |nil=>intro b h hne;cases b with
  |nil=>exact absurd rfl hne
  |cons y b=>simp [Op.bytesLess] at h
 |cons x a ih=>
  intro b h hne;cases b with
  |nil=>rfl
  |cons y b=>
   simp only [Op.bytesLess,Bool.or_eq_false_iff,decide_eq_false_iff_not,Bool.and_eq_false_iff] at h;simp only [Op.bytesLess,Bool.or_eq_true,decide_eq_true_eq,Bool.and_eq_true,beq_iff_eq];by_cases e:x=y
   ·subst e
    refine .inr ⟨rfl,ih b (h.2.resolve_left (by simp)) fun e=>hne (by rw [e])⟩
   ·refine .inl ?_
    have h1:=h.1;simp only [UInt8.lt_iff_toNat_lt] at h1⊢;have:x.toNat≠y.toNat:=fun e2=>e (UInt8.toNat.inj e2)
    omega
theorem qF:∀(a b c:List UInt8),Op.bytesLess a b=true→Op.bytesLess b c=true→Op.bytesLess a c=true:=by
 intro a
 induction a with
 |nil=>intro b c h1 h2;cases c with
  |nil=>simp [Op.bytesLess] at h2
  |cons z c=>rfl
 |cons x a ih=>
  intro b c h1 h2;cases b with
  |nil=>simp [Op.bytesLess] at h1
  |cons y b=>cases c with
   |nil=>simp [Op.bytesLess] at h2
   |cons z c=>
    simp only [Op.bytesLess,Bool.or_eq_true,decide_eq_true_eq,Bool.and_eq_true,beq_iff_eq,UInt8.lt_iff_toNat_lt] at h1 h2⊢;rcases h1 with h1|⟨rfl,h1⟩
    ·rcases h2 with h2|⟨rfl,h2⟩
     ·exact .inl (by omega)
     ·exact .inl h1
    ·rcases h2 with h2|⟨rfl,h2⟩
     ·exact .inl h2
     ·exact .inr ⟨rfl,ih b c h1 h2⟩
theorem iX {a b:List UInt8} (h:Op.bytesLess a b=true):Op.bytesLess b a=false:=by
 cases e:Op.bytesLess b a with
 |false=>rfl
 |true=>have:=qF _ _ _ h e;rw [vA] at this;cases this
section
variable {α:Type} (lt:α→α→Bool)
def nV (x:α):List α→List α
 |[]=>[x]
 |y::l=>if lt x y=true then x::y::l else y::nV x l
def fI (l:List α):Prop:=l.Pairwise fun a b=>lt b a=false
theorem NL {x y:α}:∀{l:List α},y∈nV lt x l↔y=x∨y∈l:=by
 intro l
 induction l with
 |nil=>simp [nV]
 |cons z l ih=>
  simp only [nV];split
  ·simp
  ·simp only [List.mem_cons,ih];constructor
   ·rintro (h|h|h)<;>simp [h]
   ·rintro (h|h|h)<;>simp [h]
theorem qS (asymm:∀a b,lt a b=true→lt b a=false) (up:∀x y z,lt x y=true→lt z y=false→lt x z=true) {x:α}:∀{l:List α},fI lt l→fI lt (nV lt x l):=by
 intro l
 induction l with
 |nil=>intro _;simp [nV,fI]
 |cons y l ih=>
  intro hs;simp only [fI,List.pairwise_cons] at hs;simp only [nV];split
  ·rename_i h
   simp only [fI,List.pairwise_cons,List.mem_cons];refine ⟨fun z hz=> ?_,hs⟩;rcases hz with rfl|hz
   ·exact asymm _ _ h
   ·exact asymm _ _ (up _ _ _ h (hs.1 z hz))
  ·rename_i h
   simp only [fI,List.pairwise_cons];refine ⟨fun z hz=> ?_,ih hs.2⟩;rcases (NL lt).1 hz with rfl|hz
   ·simpa using h
   ·exact hs.1 z hz
def dP (l:List α):List α:=l.foldl (fun out x=>nV lt x out) []
end
end Go.AM
