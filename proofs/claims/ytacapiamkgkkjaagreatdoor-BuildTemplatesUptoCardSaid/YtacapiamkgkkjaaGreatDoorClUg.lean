/- Build. -/
import Derived.Test.YtacapiamkgkkjaaGreatDoorClUj
import Derived.Test.YtacapiamkgkkjaaGreatDoorClTa
set_option linter.all false
open List (length)
namespace Go.Proofs.YtacapiamkgkkjaaGreatDoor.cl.pf
open Go Go.AM
abbrev kj (F:Nat) (p:List Int):Prop:=∀f∈p,0<=f/\f<(F:Int)
def kj.app {F:Nat} {p q:List Int} (h:kj F p) (w:kj F q):kj F (p++q):=λf z=>(bf.1 z).elim (h f) (w f)
theorem kj.rep {F n:Nat} {a:Int} (h:0<=a/\a<(F:Int)):kj F (List.replicate n a):=λf q=>by rw[(List.mem_replicate.1 q).2];exact h
structure Gs (F:Nat) (tg:List tag) (mp:List (bV×List Int)):Prop where
 get:∀s,getM mp s=(tg.find? λx=>x.Name==s).map (·.Path)
 ok:∀x∈tg,kj F x.Path/\x.Path.length<=200
def Gs.nil {F:Nat}:Gs F [] []:=⟨λs=>by rw[KL];rfl,λx q=>by cases q⟩
def Gs.snoc {F:Nat} {tg:List tag} {w:List (bV×List Int)} (h:Gs F tg w) {s:bV} {p:List Int} (hs:(tg.find? λx=>x.Name==s)=none) (hp:kj F p) (hl:p.length<=200):Gs F (tg++[⟨s,p⟩]) (uz w s p):=by
 refine⟨λu=> ?_,λx q=> ?_⟩
 .rw[Fe,List.find?_append];by_cases e:u=s
  .subst e;rw[aC rfl,hs];simp
  .rw[aA e,h.get];cases tg.find? λx=>x.Name==u with
   |some x=>rfl
   |none=>
    have:((⟨s,p⟩:tag).Name==u)=false:=by simpa using λz=>e z.symm
    simp[mL,this]
 .rcases bf.1 q with q|q
  .exact h.ok x q
  .simp at q;subst q;exact⟨hp,hl⟩
def oI {U V W:Type} (x:Option (U×V×W)):(eO x λa b c=>some (a,b,c))=x:=by cases x with
 |none=>rfl
 |some x=>rfl
section
variable {h:aV} {T F:Nat} {sb:Int->Int->Prop} {cz:Int->Int} {val:Int->Int->Int} (H:HX h T F sb cz val) (hT:T<=1000) (hF:F<=300)
theorem o518 (A:List Node) (p:List Int) (g:FSt) (tg:List tag):f518 h A false p g tg=some (A,false,tg):=e518 (by rw[au])
theorem aeO (A:List Node) (p q:List Int) (tg:List tag):f522 h A false p q tg=some (A,false,tg):=e522 (by rw[au])
include H hT in
theorem s517 {A:List Node} {b:Bool} {p:List Int} {s:bV} {tg:List tag} {r:List Node×Bool×List tag} (q:f518 h A b p ⟨[⟨oE h s,[]⟩]⟩ tg=some r):f517 h A b p s tg=some r:=by have w:=H.tl;refine e517 ?_;rw[c364 _ _ af,ak,c414,ak];show yz Hv [⟨_,[]⟩] ([[]].map some) _=_;rw[qB rfl];show eO (f518 h A b p ⟨[⟨_,[]⟩]⟩ tg) _=_;rw[oI];exact q
include H hT in
theorem Ui (A:List Node) (p:List Int) (s:bV) (tg:List tag):f517 h A false p s tg=some (A,false,tg):=s517 H hT (o518 A p _ tg)
include H hF
theorem s_put {A:List Node} (z:Can T F ⟨A⟩) {g:FSt} (D:Can T F g) {p:List Int} (hp:kj F p) (N:A.length+(p.length+g.az.length)<=1000000) (t:List Template) (tg:List tag):
  (∃B,f518 h A true p g tg=some (B,true,tg)/\(∀q,NA p g h.Types h.bG t A q=some (true,B,q))/\Can T F ⟨B⟩/\B.length<=A.length+(p.length+g.az.length))\/
  (∃B,f518 h A true p g tg=some (B,false,tg)/\∀q,NA p g h.Types h.bG t A q=some (false,A,q)):=by
 have w:0<T:=by have:=z.go.tp 0 z.ne;omega
 have O:=Zw w af hp D (to_ok D af af);rcases at_same H.hv.hm z D w hF hp N with⟨f,G,I,K⟩|⟨G,I,_⟩
 .refine .inl ⟨f.az,e518 ?_,λq=>e531a ?_,K.can,?_⟩
  .rw[aj,I,ak]
  .rw[show aV.mk h.Types h.bG=h from rfl,G,ak,aj]
  .have:=Lub.size H.hv z O K;rw[Gi] at this;exact this
 .refine .inr ⟨[],e518 ?_,λq=>e531a ?_⟩
  .rw[aj,I,ak]
  .rw[show aV.mk h.Types h.bG=h from rfl,G,ak,au]
theorem YY {t:Int} (ht:0<=t/\t<(T:Int)):Can T F ⟨[⟨t,[]⟩]⟩:=vF (T:=T) (F:=F) (π:=[]) (t:=t) af ai ht
theorem ae7 {A:List Node} (D:Can T F ⟨A⟩) {ty:Int} (ht:0<=ty/\ty<(T:Int)) {p:List Int} (hp:kj F p) (G:A.length+(p.length+1)<=1000000) (t:List Template) (tg:List tag):
  (∃B,f518 h A true p ⟨[⟨ty,[]⟩]⟩ tg=some (B,true,tg)/\(∀q,wu p ty h.Types h.bG t A q=some (true,B,q))/\Can T F ⟨B⟩/\B.length<=A.length+(p.length+1))\/
  (∃B,f518 h A true p ⟨[⟨ty,[]⟩]⟩ tg=some (B,false,tg)/\∀q,wu p ty h.Types h.bG t A q=some (false,A,q)):=by
 rcases s_put H hF D (YY H hF ht) hp G t tg with⟨B,w,z,I,K⟩|⟨B,w,z⟩
 .exact .inl ⟨B,w,λq=>e530a (by rw[z,bq]),I,K⟩
 .exact .inr ⟨B,w,λq=>e530a (by rw[z,bq])⟩
include hT in
theorem ae9 {A:List Node} (D:Can T F ⟨A⟩) {s:bV} (ht:0<=oE h s) {p:List Int} (hp:kj F p) (G:A.length+(p.length+1)<=1000000) (t:List Template) (tg:List tag):
  (∃B,f517 h A true p s tg=some (B,true,tg)/\(∀q,wu p (oE h s) h.Types h.bG t A q=some (true,B,q))/\Can T F ⟨B⟩/\B.length<=A.length+(p.length+1))\/
  (∃B,f517 h A true p s tg=some (B,false,tg)/\∀q,wu p (oE h s) h.Types h.bG t A q=some (false,A,q)):=by
 have I:=H.tl
 have:oE h s<(h.Types.length:Int):=(Ql _ _).1
 rcases ae7 H hF D (ty:=oE h s) ⟨ht,af⟩ hp G t tg with⟨B,w,z⟩|⟨B,w,z⟩
 .exact .inl ⟨B,s517 H hT w,z⟩
 .exact .inr ⟨B,s517 H hT w,z⟩
theorem s_eq {A:List Node} (z:Can T F ⟨A⟩) {p q:List Int} (hp:kj F p) (O:kj F q) (Pt:p.length<=1000) (G:q.length<=1000) (N:A.length<=900000) (t:List Template) (tg:List tag):
  (∃B,f522 h A true p q tg=some (B,true,tg)/\(∀w,KC p q h.Types h.bG t A w=some (true,B,w))/\Can T F ⟨B⟩/\B.length<=A.length+(p.length+1)+(q.length+1))\/
  (∃B,f522 h A true p q tg=some (B,false,tg)/\∀w,KC p q h.Types h.bG t A w=some (false,A,w)):=by
 have D:0<T:=by have:=z.go.tp 0 z.ne;omega
 rcases acn H.hv.hm z hp O Pt G D hF N with⟨f,I,K,P,Q⟩|⟨I,K⟩
 .refine .inl ⟨f.az,e522 ?_,λw=>e532a ?_,P,Q⟩
  .rw[aj,K,ak]
  .rw[show aV.mk h.Types h.bG=h from rfl,I,ak,aj]
 .refine .inr ⟨[],e522 ?_,λw=>e532a ?_⟩
  .rw[aj,K,ak]
  .rw[show aV.mk h.Types h.bG=h from rfl,I,ak,au]
omit H hF in
theorem h519 {p:List Int} {s:bV} {A:List Node} {ok:Bool} {o:state} {tg:List tag} (hl:tg.length<=100000) {r:List Node×Bool×List tag}:∀(xs:List tag) (i:Nat),tg.drop i=xs->
  (match xs.find? λx=>x.Name==s with
   |some x=>f522 h A ok x.Path p tg
   |none=>f518 h A ok p ⟨[⟨0,[]⟩]⟩ (tg++[⟨s,p⟩]))=some r->RD p s i h A ok o tg=some r:=by
 intro xs;induction xs with
 |nil=>intro i q w;refine ad5 ?_;rw[bg q,au,cF _ af ai af,c414,ak];show yz Hv [⟨_,[]⟩] ([[]].map some) _=_;rw[qB rfl];show eO (f518 h A ok p ⟨[⟨0,[]⟩]⟩ _) _=_;rw[oI];exact w
 |cons x xs ih=>intro i q w;refine ad5 ?_;rw[aR q,aj,jQ q,jP q];cases e:x.Name==s with
  |true=>rw[mL,e] at w;rw[aj,jQ q,jP q,oI];exact w
  |false=>rw[mL,e] at w;rw[au,aN q af];exact ih (i+1) (aI q) w
omit H hF in
theorem o519 {A:List Node} {p:List Int} {s:bV} {tg:List tag} (hl:tg.length<=100000):∃q,f519 h A false p s tg=some (A,false,q)/\q.length<=tg.length+1:=by
 have key:=λr=>h519 (h:=h) (p:=p) (s:=s) (A:=A) (ok:=false) (o:=⟨⟨[]⟩,false,[]⟩) hl (r:=r) tg 0 rfl
 cases e:tg.find? λx=>x.Name==s with
 |some x=>exact⟨tg,e519 (key _ (by rw[e];exact aeO A _ p tg)),af⟩
 |none=>exact⟨tg++[⟨s,p⟩],e519 (key _ (by rw[e];exact o518 A p _ _)),ai⟩
noncomputable abbrev W5 (h:aV) (t:List Template) (s:bV) (p:List Int) (A:List Node) (q:List (bV×List Int)):Option (Bool×List Node×List (bV×List Int)):=
 tD q s (λy=>eO (KC y p h.Types h.bG t A q) λa b c=>some (a,b,c)) (yg (uz q s p) λm=>eO (wu p 0 h.Types h.bG t A m) λa b c=>some (a,b,c))
theorem s_tag {A:List Node} (K:Can T F ⟨A⟩) {s:bV} {p:List Int} (hp:kj F p) (Pt:p.length<=200) (Q:A.length<=900000) (t:List Template) {tg:List tag} {I:List (bV×List Int)} (N:Gs F tg I) (hl:tg.length<=10000):
  (∃B q w,f519 h A true p s tg=some (B,true,q)/\W5 h t s p A I=some (true,B,w)/\Can T F ⟨B⟩/\B.length<=A.length+402/\Gs F q w/\q.length<=tg.length+1)\/
  (∃B q w,f519 h A true p s tg=some (B,false,q)/\W5 h t s p A I=some (false,A,w)/\q.length<=tg.length+1):=by
 have key:=λr=>h519 (h:=h) (p:=p) (s:=s) (A:=A) (ok:=true) (o:=⟨⟨[]⟩,false,[]⟩) af (r:=r) tg 0 rfl
 have P:0<T:=by have:=K.go.tp 0 K.ne;omega
 have G:=N.get s;cases e:tg.find? λx=>x.Name==s with
 |some x=>
  rw[e] at G;obtain⟨S,U⟩:=N.ok x (oq e);rcases s_eq H hF K S hp af af Q t tg with⟨B,z,D,O,R⟩|⟨B,z,D⟩
  .exact .inl ⟨B,tg,I,e519 (key _ (by rw[e];exact z)),by unfold W5;rw[tO G,oI,D],O,by omega,N,af⟩
  .exact .inr ⟨B,tg,I,e519 (key _ (by rw[e];exact z)),by unfold W5;rw[tO G,oI,D],af⟩
 |none=>
  rw[e] at G;rcases ae7 H hF K (ty:=0) ⟨af,af⟩ hp af t (tg++[⟨s,p⟩]) with⟨B,z,D,O,R⟩|⟨B,z,D⟩
  .exact .inl ⟨B,_,_,e519 (key _ (by rw[e];exact z)),by unfold W5;rw[tN G,xH,oI,D],O,by omega,N.snoc e hp Pt,ai⟩
  .exact .inr ⟨B,_,_,e519 (key _ (by rw[e];exact z)),by unfold W5;rw[tN G,xH,oI,D],ai⟩
end
end Go.Proofs.YtacapiamkgkkjaaGreatDoor.cl.pf
namespace Go.Proofs.YtacapiamkgkkjaaGreatDoor.cl.pf
open Go Go.AM
def Sg {U V W X:Type} (x:Option (U×V×W×X)):(nx x λa b c d=>some (a,b,c,d))=x:=by cases x with
 |none=>rfl
 |some x=>rfl
def rJ {U V W X:Type} {x:Option (U×V×W)} {t:X} {a:U} {b:V} {c:W} (h:x=some (a,b,c)):(eO x λa b c=>some (a,b,t,c))=some (a,b,t,c):=by rw[h];rfl
def ZI (T F:Nat) (t:List Template):Prop:=∀x∈t,Can T F x.fR/\x.fR.az.length<=4096
abbrev me (h:aV) (p:List Int) (i:Nat):List Int:=p++List.replicate i (jR h y7)
abbrev AU (h:aV) (p:List Int):List Int:=p++[jR h IL]
def Sim (T F:Nat) (t u:List Template) (n k:Nat) (z:Option (List Node×Bool×List Template×List tag)) (w:Option (Bool×List Node×List (bV×List Int))):Prop:=
 (∃B tg q,z=some (B,true,t,tg)/\(I1 t u->w=some (true,B,q))/\Can T F ⟨B⟩/\B.length+400<=n/\Gs F tg q/\tg.length<=k)\/
 (∃B tg D q,z=some (B,false,t,tg)/\(I1 t u->w=some (false,D,q))/\tg.length<=k)
def Off (t:List Template) (k:Nat) (A:List Node) (q:Option (List Node×Bool×List Template×List tag)):Prop:=
 ∃tg,q=some (A,false,t,tg)/\tg.length<=k
def Nl (h:aV) (T F:Nat) (t u:List Template) (d:bQ):Prop:=∀p,kj F p->p.length+14 *qW d<=200->
 (∀A tg q,Can T F ⟨A⟩->A.length+5000 *qW d<=99400->tg.length+qW d<=1000->Gs F tg q->
  Sim T F t u (A.length+5000 *qW d) (tg.length+qW d) (r8 h A true p d t tg) (tv d p h.Types h.bG u A q))/\
 ∀A tg,tg.length+qW d<=1000->Off t (tg.length+qW d) A (r8 h A false p d t tg)
def Kw (d:bQ):1<=qW d:=by rw[DS];omega
section
variable {h:aV} {T F:Nat} {sb:Int->Int->Prop} {cz:Int->Int} {val:Int->Int->Int} (H:HX h T F sb cz val) (hT:T<=1000) (hF:F<=300) {t u:List Template} (ht:t.length<=1000) (hs:ZI T F t)
section
variable {p:List Int} (hp:kj F p) {d:bQ} (hl:d.Kids.length<=256) (ih:∀k∈d.Kids,Nl h T F t u k) (Pt:p.length+14 *qW d<=200)
include hp hl ih
theorem o_and {o:state}:∀(xs:List bQ) (i:Nat) (A:List Node) (tg:List tag),d.Kids.drop i=xs->p.length+14 *gx xs<=200->tg.length+gx xs<=1000->
  Off t (tg.length+gx xs) A (wY p d.Kids.length i h A false d o t tg):=by
 intro xs;induction xs with
 |nil=>intro i A tg q _ _;exact⟨tg,yN (by rw[bg q,au]),af⟩
 |cons x xs B=>intro i A tg q w z;simp only[gx] at w z⊢;obtain⟨D,I,N⟩:=(ih x (aP (bU q)) p hp af).2 A tg af;obtain⟨G,K,O⟩:=B (i+1) A D (aI q) af af;exact⟨G,yN (by rw[aR q,aj,aK q,I,cL,aN q af];exact K),af⟩
theorem s_and {o:state}:∀(xs:List bQ) (i:Nat) (A:List Node) (tg:List tag) (O:List (bV×List Int)),d.Kids.drop i=xs->p.length+14 *gx xs<=200->Can T F ⟨A⟩->A.length+5000 *gx xs<=99400->tg.length+gx xs<=1000->Gs F tg O->
  (∃B z K,wY p d.Kids.length i h A true d o t tg=some (B,true,t,z)/\(I1 t u->CQ d.Kids d.Kids.length i p h.Types h.bG u A O=some (-1,B,K))/\Can T F ⟨B⟩/\B.length<=A.length+5000 *gx xs/\Gs F z K/\z.length<=tg.length+gx xs)\/
  (∃B z C K v,wY p d.Kids.length i h A true d o t tg=some (B,false,t,z)/\(I1 t u->CQ d.Kids d.Kids.length i p h.Types h.bG u A O=some (v,C,K))/\0<=v/\z.length<=tg.length+gx xs):=by
 intro xs;induction xs with
 |nil=>intro i A tg O w _ V _ _ hr;exact .inl ⟨A,tg,O,yN (by rw[bg w,au]),λ_=>Jk (by rw[bg w,au]),V,by omega,hr,af⟩
 |cons x xs ihx=>
  intro i A tg O w hpx V hAx htx hr;simp only[gx] at hpx hAx htx⊢;have hx1:=Kw x;rcases(ih x (aP (bU w)) p hp af).1 A tg O V af af hr with⟨B,Q,N,S,U,gc,gl,gr,gt⟩|⟨B,Q,C,N,S,U,gt⟩
  .have q:I1 t u->acp x p h.Types h.bG u A O=some (false,B,N):=λI=>e557a (by rw[U I,bq];rfl)
   rcases ihx (i+1) B Q N (aI w) af gc af af gr with⟨D,G,P,R,j3,jc,jl,jr,jt⟩|⟨D,G,C,P,v,R,j3,jv,jt⟩
   .refine .inl ⟨D,G,P,yN ?_,λI=>Jk ?_,jc,by omega,jr,af⟩
    .rw[aR w,aj,aK w,S,cL,aN w af];exact R
    .rw[aR w,aj,aK w,q I,bq,au,aN w af];exact j3 I
   .refine .inr ⟨D,G,C,P,v,yN ?_,λI=>Jk ?_,jv,af⟩
    .rw[aR w,aj,aK w,S,cL,aN w af];exact R
    .rw[aR w,aj,aK w,q I,bq,au,aN w af];exact j3 I
  .obtain⟨G,R,jt⟩:=o_and hp hl ih (o:=o) xs (i+1) B Q (aI w) af af;refine .inr ⟨B,G,C,N,i,yN ?_,λI=>Jk ?_,by omega,af⟩
   .rw[aR w,aj,aK w,S,cL,aN w af];exact R
   .rw[aR w,aj,aK w,e557a (by rw[U I,bq]),bq];rfl
end
section
include H hF
theorem h508p {d:bQ} (hl:d.Path.length<=64) {A:List Node} {ok:Bool} {o:state} {tg:List tag}:∀(xs:List bV) (i:Nat) (p:List Int),d.Path.drop i=xs->p.length<=1000+i->
  ∀r,(bp d.Kids 0 λx=>r8 h A ok (p++xs.map (jR h)) x t tg)=some r->F7 i h A ok d o p t tg=some r:=by
 have z:=H.hv.fl;intro xs;induction xs with
 |nil=>intro i p q _ r w;simp only[fN,eP] at w;refine TK ?_;rw[bg q,au];simp only[Sg];exact w
 |cons x xs ih=>intro i p q hp r w;have B:=eM q;rw[bM,List.append_cons] at w;refine TK ?_;rw[aR q,aj,aK q,zZ _ _ af,ak,cF _ af ai af,aN q af];exact ih (i+1) (p++[jR h x]) (aI q) aH r w
theorem Cz {s:bV} (q:0<=jR h s):0<=jR h s/\jR h s<(F:Int):=by
 have:jR h s<(h.bG.length:Int):=(Ql _ _).1
 have:=H.hv.fl;exact⟨q,af⟩
end
section
include H hT hF
variable (L:LT h) {p:List Int} (hp:kj F p) {l:List bQ} (hl:l.length<=12) (ih:∀k∈l,Nl h T F t u k)
include L hp in
theorem B4 (i:Nat):kj F (me h p i):=hp.app (kj.rep (Cz H hF L.re))
include L hp hl ih
theorem Oa {o:state}:∀(xs:List bQ) (i:Nat) (A:List Node) (tg:List tag),l.drop i=xs->p.length+13+14 *gx xs<=200->tg.length+gx xs<=1000->
  Off t (tg.length+gx xs) A (vO p l i h A false o t tg):=by
 have N:=H.hv.fl;intro xs;induction xs with
 |nil=>intro i A tg q _ _;exact⟨tg,Af (by rw[bg q,au]),af⟩
 |cons x xs B=>intro i A tg q w z;have Q:=eM q;simp only[gx] at w z⊢;have I:f521 p (jR h y7) (i:Int)=some (me h p i):=OU af;have c2:f521 (me h p i) (jR h s8) 1=some (me h p i++[jR h s8]):=OU (n:=1) aH;obtain⟨D,K,P⟩:=(ih x (aP (bU q)) (me h p i++[jR h s8]) ((B4 H hT hF L hp i).app (kj.rep (n:=1) (Cz H hF L.fi))) aH).2 A tg af;obtain⟨G,O,R⟩:=B (i+1) A D (aI q) af af;refine⟨G,Af ?_,af⟩;rw[aR q,aj,zZ _ _ af,ak,I,ak,Ui H hT,bq,zZ _ _ af,ak,c2,ak,aK q,K,cL,aN q af];exact O
theorem ae8 {o:state}:∀(xs:List bQ) (i:Nat) (A:List Node) (tg:List tag) (w:List (bV×List Int)),l.drop i=xs->p.length+13+14 *gx xs<=200->Can T F ⟨A⟩->A.length+5000 *gx xs<=99100->tg.length+gx xs<=1000->Gs F tg w->
  (∃B G K,vO p l i h A true o t tg=some (B,true,t,G)/\(I1 t u->CP (me h p i) l l.length i h.Types h.bG u A w=some ((me h p (i+xs.length),true),B,K))/\Can T F ⟨B⟩/\B.length<=A.length+5000 *gx xs/\Gs F G K/\G.length<=tg.length+gx xs)\/
  (∃B G C K,vO p l i h A true o t tg=some (B,false,t,G)/\(I1 t u->CP (me h p i) l l.length i h.Types h.bG u A w=some (([],false),C,K))/\G.length<=tg.length+gx xs):=by
 have hfl:=H.hv.fl;have htl:=H.tl;intro xs;induction xs with
 |nil=>intro i A tg w q _ hA _ _ hr;exact .inl ⟨A,tg,w,Af (by rw[bg q,au]),λ_=>Fj (by rw[bg q,au];rfl),hA,by omega,hr,af⟩
 |cons x xs ihx=>
  intro i A tg w q hpx hA hAx htx hr;have hi:=eM q;simp only[gx] at hpx hAx htx⊢;have hx1:=Kw x;have hq:=B4 H hT hF L hp i;have hql:(me h p i).length=p.length+i:=ai;have S:=ih x (aP (bU q)) (me h p i++[jR h s8]) (hq.app (kj.rep (n:=1) (Cz H hF L.fi))) aH;have c0:f352 (aV.mk h.Types h.bG) FN=some (oE h FN):=c352 _ h af;have c1:f521 p (jR h y7) (i:Int)=some (me h p i):=OU af;have c2:f521 (me h p i) (jR h s8) 1=some (me h p i++[jR h s8]):=OU (n:=1) af;have m1:∀A w,BJ (me h p i) [s8] h.Types h.bG u A w=some (me h p i++[jR h s8],A,w):=λA w=>abR af ai af
  have m2:∀A w,BJ (me h p i) [y7] h.Types h.bG u A w=some (me h p (i+1),A,w):=λA w=>by rw[abR af ai af,me,me,vt,dz];rfl
  have el:i+1+xs.length=i+(x::xs).length:=aH;rcases ae9 H hT hF hA L.co hq af u tg with⟨B,U,V,j3,j4⟩|⟨B,U,V⟩
  .rcases S.1 B tg w j3 af af hr with⟨C,I,P,R,g3,gc,gl,gr,gt⟩|⟨C,I,D,P,R,g3,gt⟩
   .rcases ihx (i+1) C I P (aI q) af gc af af gr with⟨D,z,Q,O,k3,kc,kl,kr,kt⟩|⟨D,z,E,Q,O,k3,kt⟩
    .refine .inl ⟨D,z,Q,Af ?_,λN=>Fj ?_,kc,by omega,kr,af⟩
     .rw[aR q,aj,zZ _ _ af,ak,c1,ak,U,bq,zZ _ _ af,ak,c2,ak,aK q,R,cL,aN q af];exact O
     .rw[aR q,aj,aK q,c0,ak,V,bq,cond_neg (by rfl),m1,bq,g3 N,bq,cond_neg (by rfl),m2,bq,aN q af,<-el];exact k3 N
    .refine .inr ⟨D,z,E,Q,Af ?_,λN=>Fj ?_,af⟩
     .rw[aR q,aj,zZ _ _ af,ak,c1,ak,U,bq,zZ _ _ af,ak,c2,ak,aK q,R,cL,aN q af];exact O
     .rw[aR q,aj,aK q,c0,ak,V,bq,cond_neg (by rfl),m1,bq,g3 N,bq,cond_neg (by rfl),m2,bq,aN q af];exact k3 N
   .obtain⟨z,O,kt⟩:=Oa H hT hF L hp hl ih (o:=o) xs (i+1) C I (aI q) af af;refine .inr ⟨C,z,D,P,Af ?_,λN=>Fj ?_,af⟩
    .rw[aR q,aj,zZ _ _ af,ak,c1,ak,U,bq,zZ _ _ af,ak,c2,ak,aK q,R,cL,aN q af];exact O
    .rw[aR q,aj,aK q,c0,ak,V,bq,cond_neg (by rfl),m1,bq,g3 N,bq,cond_pos (by rfl)]
  .obtain⟨I,R,gt⟩:=S.2 B tg af;obtain⟨z,O,kt⟩:=Oa H hT hF L hp hl ih (o:=o) xs (i+1) B I (aI q) af af;refine .inr ⟨B,z,A,w,Af ?_,λN=>Fj ?_,af⟩
   .rw[aR q,aj,zZ _ _ af,ak,c1,ak,U,bq,zZ _ _ af,ak,c2,ak,aK q,R,cL,aN q af];exact O
   .rw[aR q,aj,aK q,c0,ak,V,bq,cond_pos (by rfl)]
end
end
end Go.Proofs.YtacapiamkgkkjaaGreatDoor.cl.pf
namespace Go.Proofs.YtacapiamkgkkjaaGreatDoor.cl.pf
open Go Go.AM
structure Gd (h:aV) (t:List Template) (d:bQ):Prop where
 fm:Fm d
 kl:d.Kids.length<=12
 pl:d.Path.length<=4
 kn:Kn h t d
theorem Nw:∀(l m:List bQ),gx (l++m)=gx l+gx m
 |[],m=>by simp[gx]
 |x::l,m=>by simp[gB,gx,Nw l m];omega
def VG {l:List bQ} {n:Nat} (h:l.length=n+1):gx l=gx (l.take n)+qW (l[n]'(by omega)):=by grind[List.take_append_drop,List.drop_eq_getElem_cons,gx,Nw]
section
variable {h:aV} {T F:Nat} {sb:Int->Int->Prop} {cz:Int->Int} {val:Int->Int->Int} (H:HX h T F sb cz val) (hT:T<=1000) (hF:F<=300) {t u:List Template} (ht:t.length<=1000) (hs:ZI T F t)
include H hT hF ht
section
variable {d:bQ} {p:List Int} (hp:p.length<=200) {A:List Node} {ok:Bool} {tg:List tag}
include hp
theorem fin6 (Q:d.Op=6) (R:d.Kids.length<=12) {z B:List Node} {D G:Bool} {q w:List tag} (N:vO p d.Kids (0:Nat) h A ok ⟨⟨[]⟩,false,[]⟩ t tg=some (z,D,t,q)) (O:f517 h z D (me h p d.Kids.length) DE q=some (B,G,w)):
  r8 h A ok p d t tg=some (B,G,t,w):=by
 have P:=H.hv.fl;have I:f521 p (jR h y7) (d.Kids.length)=some _:=OU af;have K:=acd N;refine Dg ?_;rw[Q,K,cL,zZ _ _ af,ak,I];exact rJ O
theorem fin7 (Q:d.Op=7) {n:Nat} (P:d.Kids.length=n+1) (S:n<=12) {z B:List Node} {D G:Bool} {q w:List tag} (N:vO p (d.Kids.take n) (0:Nat) h A ok ⟨⟨[]⟩,false,[]⟩ t tg=some (z,D,t,q)) (R:r8 h z D (me h p n) (d.Kids[n]'(by omega)) t q=some (B,G,t,w)):
  r8 h A ok p d t tg=some (B,G,t,w):=by
 have O:=H.hv.fl;have I:f521 p (jR h y7) (n)=some _:=OU af;have K:=acd N;refine Dg ?_;rw[Q,cond_neg (by rfl),cond_neg (by rfl),cond_neg (by rfl),cond_neg (by rfl),cond_neg (by rfl),cond_neg (by rfl),cond_pos (by rfl),P,qO af,b9 ⟨af,af⟩,aS,qy,K,cL,zZ _ _ af,ak,I,ak,cR _,Sg];omega
theorem aae (ho:d.Op=8) (hk:d.Kids.length<=12) {z B D G:List Node} {I K N O:Bool} {q w:List tag} (S:f517 h A ok p Au tg=some (z,I,tg)) (U:vO (AU h p) d.Kids (0:Nat) h z I ⟨⟨[]⟩,false,[]⟩ t tg=some (B,K,t,q)) (V:f517 h B K (me h (AU h p) d.Kids.length) DC q=some (D,N,q)) (g4:f522 h D N (me h (AU h p) d.Kids.length) (p++[jR h y6]) q=some (G,O,w)):
  r8 h A ok p d t tg=some (G,O,t,w):=by
 have hfl:=H.hv.fl;have P:f521 (AU h p) (jR h y7) (d.Kids.length)=some _:=OU aH;have c2:f521 p _ 1=some (AU h p):=OU (n:=1) af;have Q:f521 p (jR h y6) 1=some _:=OU (n:=1) af;have R:=acd U;refine Dg ?_;rw[ho,cond_neg (by rfl),cond_neg (by rfl),cond_neg (by rfl),cond_neg (by rfl),cond_neg (by rfl),cond_neg (by rfl),cond_neg (by rfl),S,bq,zZ _ _ af,ak,c2,ak,R,cL,zZ _ _ af,ak,P,ak,V,bq,zZ _ _ af,ak,Q];exact rJ g4
end
include hs
theorem add_ok (d:bQ):kN (Gd h t) d->Nl h T F t u d:=by
 refine oK (P:=λd=>kN (Gd h t) d->Nl h T F t u d) (λd ih0 hd p hp Pt=> ?_) d;have hfl:=H.hv.fl;have htl:=H.tl;have gd:=hd.here;have K:=gd.kl;have hpp:=gd.pl;have hop:=gd.fm.op;have ih:∀k∈d.Kids,Nl h T F t u k:=λk hk=>ih0 k hk (hd.kids k hk)
 have hdc:=DS d;have hh:aV.mk h.Types h.bG=h:=rfl;have ct:∀s,f352 h s=some (oE h s):=λs=>c352 s h af
 have hr0:me h p 0=p:=ai;by_cases o1:d.Op=1
 .refine⟨λA tg z hA hAx P I=> ?_,λA tg P=>⟨tg,Dg ?_,af⟩⟩
  .rcases ae9 H hT hF hA (gd.kn.ty o1) hp af u tg with⟨B,j1,G,O,j4⟩|⟨B,j1,G⟩
   .refine .inl ⟨B,tg,z,Dg ?_,λN=>BI ?_,O,by omega,I,af⟩
    .rw[o1,cond_pos (by rfl)];exact rJ j1
    .rw[o1,cond_pos (by rfl),hh,ct,ak,oI];exact G z
   .refine .inr ⟨B,tg,A,z,Dg ?_,λN=>BI ?_,af⟩
    .rw[o1,cond_pos (by rfl)];exact rJ j1
    .rw[o1,cond_pos (by rfl),hh,ct,ak,oI];exact G z
  .rw[o1,cond_pos (by rfl)];exact rJ (Ui H hT A p _ tg)
 by_cases o2:d.Op=2
 .obtain⟨i,x,q1,q2⟩:=gd.kn.tm o2;obtain⟨x1,x2⟩:=hs x (aP q2);have hil:=(bu.1 q2).1;have hx:t[i]=x:=(bu.1 q2).2;have f515e:f515 t d.Name=some (i:Int):=by rw[ZU _ _ af,<-q1]
  have br:∀{A ok tg B b},f518 h A ok p x.fR tg=some (B,b,tg)->r8 h A ok p d t tg=some (B,b,t,tg):=λ{A ok tg B b} I=>by refine Dg ?_;rw[o2,cond_neg (by rfl),cond_pos (by rfl),f515e,ak,BF hil,aS,mQ hil,hx];exact rJ I
  refine⟨λA tg z hA hAx P I=> ?_,λA tg P=>⟨tg,br (o518 A p _ tg),af⟩⟩;have S:∀{B b},NA p x.fR h.Types h.bG u A z=some (b,B,z)->I1 t u->tv d p h.Types h.bG u A z=some (b,B,z):=λ{B b} I N=>by
   obtain⟨k,b,w1,w2⟩:=N.find d.Name;rcases w2 with⟨_,i2,y,w2,w3,w4⟩|⟨_,w2⟩
   .have:i2=i:=af
    subst this;rw[q2] at w3;cases w3;obtain⟨K,hky⟩:=bu.1 w4;refine BI ?_;rw[o2,cond_neg (by rfl),cond_pos (by rfl),w1,bq,cR K,hky,oI];exact I
   .omega
  rcases s_put H hF hA x1 hp af u tg with⟨B,j1,G,O,j4⟩|⟨B,j1,G⟩
  .exact .inl ⟨B,tg,z,br j1,S (G z),O,by omega,I,af⟩
  .exact .inr ⟨B,tg,A,z,br j1,S (G z),af⟩
 by_cases o3:d.Op=3
 .have br:∀{A ok tg B b tg'},f519 h A ok p d.Name tg=some (B,b,tg')->r8 h A ok p d t tg=some (B,b,t,tg'):=λ{A ok tg B b tg'} I=>by
   refine Dg ?_;rw[o3,cond_neg (by rfl),cond_neg (by rfl),cond_pos (by rfl)];exact rJ I
  refine⟨λA tg z hA hAx P I=> ?_,λA tg P=> ?_⟩
  .have S:∀{r},W5 h u d.Name p A z=some r->tv d p h.Types h.bG u A z=some r:=λ{r} I=>by
    refine BI ?_;rw[o3,cond_neg (by rfl),cond_neg (by rfl),cond_pos (by rfl)];exact I
   rcases s_tag H hF hA hp af af u I af (s:=d.Name) with⟨B,q,w,j1,G,O,j4,j5,j6⟩|⟨B,q,w,j1,G,O⟩
   .exact .inl ⟨B,q,w,br j1,λ_=>S G,O,by omega,j5,af⟩
   .exact .inr ⟨B,q,A,w,br j1,λ_=>S G,af⟩
  .obtain⟨q,j1,G⟩:=o519 (h:=h) (A:=A) (p:=p) (s:=d.Name) (tg:=tg) af;exact⟨q,br j1,af⟩
 by_cases o4:d.Op=4
 .have V:∀{A ok tg B b tg'},wY p d.Kids.length (0:Nat) h A ok d ⟨⟨[]⟩,false,[]⟩ t tg=some (B,b,t,tg')->r8 h A ok p d t tg=some (B,b,t,tg'):=λ{A ok tg B b tg'} I=>by
   refine Dg ?_;rw[o4,cond_neg (by rfl),cond_neg (by rfl),cond_neg (by rfl),cond_pos (by rfl)];exact I
  refine⟨λA tg z hA hAx P I=> ?_,λA tg P=> ?_⟩
  .have S:∀{v B mp'},CQ d.Kids d.Kids.length (0:Nat) p h.Types h.bG u A z=some (v,B,mp')->tv d p h.Types h.bG u A z=some (!(decide (v>=0)),B,mp'):=λ{v B mp'} I=>by
    refine BI ?_;rw[o4,cond_neg (by rfl),cond_neg (by rfl),cond_neg (by rfl),cond_pos (by rfl),e533b (by rw[e543b I,bq]),bq]
   rcases s_and hp af ih (o:=⟨⟨[]⟩,false,[]⟩) d.Kids 0 A tg z rfl af hA af af I with⟨B,q,w,G,O,jc,jl,jr,jt⟩|⟨B,q,C,w,v,G,O,jv,jt⟩
   .exact .inl ⟨B,q,w,V G,λN=>S (O N),jc,by omega,jr,af⟩
   .refine .inr ⟨B,q,C,w,V G,λN=> ?_,af⟩;rw[S (O N),show decide (v>=0)=true from vv jv];rfl
  .obtain⟨q,G,O⟩:=o_and hp af ih (o:=⟨⟨[]⟩,false,[]⟩) d.Kids 0 A tg rfl af af;exact⟨q,V G,af⟩
 by_cases o5:d.Op=5
 .have h1:=gd.fm.kd.one o5;obtain⟨k0,hke⟩:=ED.1 h1;have hk0:k0∈d.Kids:=by rw[hke];simp
  have hdk:gx d.Kids=qW k0:=by rw[hke];simp[gx]
  have g0:∀{R:Type} (k:bQ->Option R),bp d.Kids 0 k=k k0:=λk=>by rw[hke];exact jS _ _ _
  have hq:kj F (p++d.Path.map (jR h)):=hp.app λf hf=>by obtain⟨s,hs,rfl⟩:=aG.1 hf;exact Cz H hF (gd.kn.pt af s hs)
  have hik:=ih k0 hk0 _ hq (by rw[bR,bI];omega);have V:∀{A ok tg r},r8 h A ok (p++d.Path.map (jR h)) k0 t tg=some r->r8 h A ok p d t tg=some r:=λ{A ok tg r} I=>by refine Dg ?_;rw[o5,cond_neg (by rfl),cond_neg (by rfl),cond_neg (by rfl),cond_neg (by rfl),cond_pos (by rfl),cF _ ai af af,dU];exact h508p H hF af d.Path 0 p rfl af r (by rw[g0];exact I)
  have S:∀{A z r},tv k0 (p++d.Path.map (jR h)) h.Types h.bG u A z=some r->tv d p h.Types h.bG u A z=some r:=λ{A z r} I=>by refine BI ?_;rw[o5,cond_neg (by rfl),cond_neg (by rfl),cond_neg (by rfl),cond_neg (by rfl),cond_pos (by rfl),g0,abR af af af,bq,oI];exact I
  refine⟨λA tg z hA hAx P I=> ?_,λA tg P=> ?_⟩
  .rcases hik.1 A tg z hA af af I with⟨B,q,w,G,O,jc,jl,jr,jt⟩|⟨B,q,C,w,G,O,jt⟩
   .exact .inl ⟨B,q,w,V G,λN=>S (O N),jc,by omega,jr,af⟩
   .exact .inr ⟨B,q,C,w,V G,λN=>S (O N),af⟩
  .obtain⟨q,G,O⟩:=hik.2 A tg af;exact⟨q,V G,af⟩
 have L:=gd.kn.ls af;by_cases o6:d.Op=6
 .have hq:=B4 H hT hF L hp d.Kids.length;have hql:(me h p d.Kids.length).length=p.length+d.Kids.length:=ai;refine⟨λA tg z hA hAx P I=> ?_,λA tg P=> ?_⟩
  .have Q:=ae8 H hT hF L hp K ih (o:=⟨⟨[]⟩,false,[]⟩) d.Kids 0 A tg z rfl af hA af af I;rw[hr0,eY] at Q;rcases Q with⟨B,q,w,G,O,jc,jl,jr,jt⟩|⟨B,q,C,w,G,O,jt⟩
   .have S:∀{b C},wu (me h p d.Kids.length) (oE h DE) h.Types h.bG u B w=some (b,C,w)->I1 t u->tv d p h.Types h.bG u A z=some (b,C,w):=λ{b C} I N=>by
     refine BI ?_;rw[o6,cond_neg (by rfl),cond_neg (by rfl),cond_neg (by rfl),cond_neg (by rfl),cond_neg (by rfl),cond_pos (by rfl),Kx (O N),bq];simp only[];rw[aj,hh,ct,ak,I,bq]
    rcases ae9 H hT hF jc L.nu hq af u q with⟨C,k1,U,k3,k4⟩|⟨C,k1,U⟩
    .exact .inl ⟨C,q,w,fin6 H hT hF ht af o6 K G k1,S (U w),k3,by omega,jr,af⟩
    .exact .inr ⟨C,q,B,w,fin6 H hT hF ht af o6 K G k1,S (U w),af⟩
   .refine .inr ⟨B,q,C,w,fin6 H hT hF ht af o6 K G (Ui H hT B _ _ q),λN=>BI ?_,af⟩;rw[o6,cond_neg (by rfl),cond_neg (by rfl),cond_neg (by rfl),cond_neg (by rfl),cond_neg (by rfl),cond_pos (by rfl),Kx (O N),bq];rfl
  .obtain⟨q,G,O⟩:=Oa H hT hF L hp K ih (o:=⟨⟨[]⟩,false,[]⟩) d.Kids 0 A tg rfl af af;exact⟨q,fin6 H hT hF ht af o6 K G (Ui H hT A _ _ q),af⟩
 by_cases o7:d.Op=7
 .have h2:=gd.fm.kd.two o7;obtain⟨n,hn⟩:∃n,d.Kids.length=n+1:=⟨d.Kids.length-1,af⟩
  have hnl:n<d.Kids.length:=af;have Ya:(d.Kids.take n).length=n:=by rw[dL];omega
  have hdl:=VG hn;have hq:=B4 H hT hF L hp n;have hql:(me h p n).length=p.length+n:=ai;have ih2:∀k∈d.Kids.take n,Nl h T F t u k:=λk hk=>ih k (vX hk)
  have acK:=ih d.Kids[n] (cG hnl) _ hq af;have X9:=Kw d.Kids[n];refine⟨λA tg z hA hAx P I=> ?_,λA tg P=> ?_⟩
  .have Q:=ae8 H hT hF L hp af ih2 (o:=⟨⟨[]⟩,false,[]⟩) (d.Kids.take n) 0 A tg z rfl af hA af af I;rw[hr0,eY,Ya] at Q;have e35:∀{r},CP p (d.Kids.take n) (n:Int) ((0:Nat):Int) h.Types h.bG u A z=some r->NB (d.Kids.take n) p h.Types h.bG u A z=some r:=λ{r} I=>by
    refine Kx ?_;rw[Ya];exact I
   rcases Q with⟨B,q,w,G,O,jc,jl,jr,jt⟩|⟨B,q,C,w,G,O,jt⟩
   .have S:∀{r},tv d.Kids[n] (me h p n) h.Types h.bG u B w=some r->I1 t u->tv d p h.Types h.bG u A z=some r:=λ{r} I N=>by
     refine BI ?_;rw[o7,cond_neg (by rfl),cond_neg (by rfl),cond_neg (by rfl),cond_neg (by rfl),cond_neg (by rfl),cond_neg (by rfl),cond_pos (by rfl),hn,qO af,b9 ⟨af,af⟩,aS,qy,e35 (O N),bq];simp only[];rw[aj,cR hnl,oI];exact I
    rcases acK.1 B q w jc af af jr with⟨C,tg2,mp2,U,k3,kc,kl,kr,kt⟩|⟨C,tg2,D,mp2,U,k3,kt⟩
    .exact .inl ⟨C,tg2,mp2,fin7 H hT hF ht af o7 hn af G U,λN=>S (k3 N) N,kc,by omega,kr,af⟩
    .exact .inr ⟨C,tg2,D,mp2,fin7 H hT hF ht af o7 hn af G U,λN=>S (k3 N) N,af⟩
   .obtain⟨tg2,U,k3⟩:=acK.2 B q af;refine .inr ⟨B,tg2,C,w,fin7 H hT hF ht af o7 hn af G U,λN=>BI ?_,af⟩;rw[o7,cond_neg (by rfl),cond_neg (by rfl),cond_neg (by rfl),cond_neg (by rfl),cond_neg (by rfl),cond_neg (by rfl),cond_pos (by rfl),hn,qO af,b9 ⟨af,af⟩,aS,qy,e35 (O N),bq];rfl
  .obtain⟨q,G,O⟩:=Oa H hT hF L hp af ih2 (o:=⟨⟨[]⟩,false,[]⟩) (d.Kids.take n) 0 A tg rfl af af;obtain⟨tg2,U,k3⟩:=acK.2 A q af;exact⟨tg2,fin7 H hT hF ht af o7 hn af G U,af⟩
 have o8:d.Op=8:=af;have hp1:kj F (AU h p):=hp.app (kj.rep (n:=1) (Cz H hF L.he));have hpla:kj F (p++[jR h y6]):=hp.app (kj.rep (n:=1) (Cz H hF L.la));have hq:=B4 H hT hF L hp1 d.Kids.length;have hql:(me h (AU h p) d.Kids.length).length=p.length+1+d.Kids.length:=aH;have hhl:(AU h p).length=p.length+1:=ai;have hr1:me h (AU h p) 0=AU h p:=ai;refine⟨λA tg z hA hAx P I=> ?_,λA tg P=> ?_⟩
 .have m1:∀B z,BJ p [IL] h.Types h.bG u B z=some (AU h p,B,z):=λB z=>abR af ai af
  have m2:∀B z,BJ p [y6] h.Types h.bG u B z=some (p++[jR h y6],B,z):=λB z=>abR af ai af
  have pr0:∀{r B b},wu p (oE h Au) h.Types h.bG u A z=some (b,B,z)->(bif(!b) then some (false,B,z) else(eO (NB d.Kids (AU h p) h.Types h.bG u B z) λy287 w290 w291=>
    bif y287.2 then(eO (wu y287.1 (oE h DC) h.Types h.bG u w290 w291) λy294 w297 w298=>bif y294 then(eO (KC y287.1 (p++[jR h y6]) h.Types h.bG u w297 w298) λy304 w307 w308=>some (y304,w307,w308)) else(some (false,w297,w298))) else(some (false,w290,w291))))=some r->tv d p h.Types h.bG u A z=some r:=λ{r B b} g I=>by
   refine BI ?_;rw[o8,cond_neg (by rfl),cond_neg (by rfl),cond_neg (by rfl),cond_neg (by rfl),cond_neg (by rfl),cond_neg (by rfl),cond_neg (by rfl),hh,ct,ak,g,bq,m1,bq];simp only[ct,ak,m2,bq];exact I
  rcases ae9 H hT hF hA L.dl hp af u tg with⟨A1,a1,a2,a3,a4⟩|⟨A1,a1,a2⟩
  .have Q:=ae8 H hT hF L hp1 K ih (o:=⟨⟨[]⟩,false,[]⟩) d.Kids 0 A1 tg z rfl af a3 af af I;rw[hr1,eY] at Q;rcases Q with⟨B,q,w,G,O,jc,jl,jr,jt⟩|⟨B,q,C,w,G,O,jt⟩
   .rcases ae9 H hT hF jc L.li hq af u q with⟨C,k1,U,k3,k4⟩|⟨C,k1,U⟩
    .rcases s_eq H hF k3 hq hpla af aH af u q with⟨D,l1,l2,l3,l4⟩|⟨D,l1,l2⟩
     .have l5:(p++[jR h y6]).length=p.length+1:=ai;refine .inl ⟨D,q,w,aae H hT hF ht af o8 K a1 G k1 l1,λN=>pr0 (a2 z) ?_,l3,by omega,jr,af⟩;rw[cond_neg (by rfl),Kx (O N),bq];simp only[];rw[aj,U,bq,aj,l2,bq]
     .refine .inr ⟨D,q,C,w,aae H hT hF ht af o8 K a1 G k1 l1,λN=>pr0 (a2 z) ?_,af⟩;rw[cond_neg (by rfl),Kx (O N),bq];simp only[];rw[aj,U,bq,aj,l2,bq]
    .refine .inr ⟨C,q,B,w,aae H hT hF ht af o8 K a1 G k1 (aeO C _ _ q),λN=>pr0 (a2 z) ?_,af⟩;rw[cond_neg (by rfl),Kx (O N),bq];simp only[];rw[aj,U,bq,au]
   .refine .inr ⟨B,q,C,w,aae H hT hF ht af o8 K a1 G (Ui H hT B _ _ q) (aeO B _ _ q),λN=>pr0 (a2 z) ?_,af⟩;rw[cond_neg (by rfl),Kx (O N),bq];rfl
  .obtain⟨q,G,O⟩:=Oa H hT hF L hp1 K ih (o:=⟨⟨[]⟩,false,[]⟩) d.Kids 0 A1 tg rfl af af;exact .inr ⟨A1,q,A,z,aae H hT hF ht af o8 K a1 G (Ui H hT A1 _ _ q) (aeO A1 _ _ q),λN=>pr0 (a2 z) (by rw[cond_pos (by rfl)]),af⟩
 .obtain⟨q,G,O⟩:=Oa H hT hF L hp1 K ih (o:=⟨⟨[]⟩,false,[]⟩) d.Kids 0 A tg rfl af af;exact⟨q,aae H hT hF ht af o8 K (Ui H hT A p _ tg) G (Ui H hT A _ _ q) (aeO A _ _ q),af⟩
end
end Go.Proofs.YtacapiamkgkkjaaGreatDoor.cl.pf
namespace Go.Proofs.YtacapiamkgkkjaaGreatDoor.cl.pf
open Go Go.AM
section
variable {h:aV} {T F:Nat} {sb:Int->Int->Prop} {cz:Int->Int} {val:Int->Int->Int} (H:HX h T F sb cz val) (hT:T<=1000) (hF:F<=300) {t u:List Template} (ht:t.length<=1000) (hs:ZI T F t)
include H in
theorem acW {f:FSt} {D G:Option (FSt×Bool)} (N:ZG T sb cz val f D) (O:ZG T sb cz val f G):D=G:=by
 rcases N with⟨a,e1,w,I⟩|⟨e1,P⟩<;>rcases O with⟨b,B,z,K⟩|⟨B,Q⟩
 .have R:CX sb cz val f (λn=>a.getD n 0):=λn q=>⟨w.up n q,I n q⟩
  have S:CX sb cz val f (λn=>b.getD n 0):=λn q=>⟨z.up n q,K n q⟩
  have:a=b:=aco (w.len.trans z.len.symm) λn q=>by rw[w.len] at q;exact H.hv.hm.to.anti (w.dK _ S n q) (z.dK _ R n q)
  rw[e1,B,this]
 .exact(Q _ λn q=>⟨w.up n q,I n q⟩).elim
 .exact(P _ λn q=>⟨z.up n q,K n q⟩).elim
 .rw[e1,B]
def BRes (T F:Nat) (f:FSt) (e:Int):Prop:=(e=0/\Can T F f/\f.az.length<=4096)\/(e≠0/\f=⟨[]⟩)
theorem LD.gd {d:bQ} (w:LD d) (z:kN (Kn h t) d):kN (Gd h t) d:=
 (((w.fm.and w.lt).and w.sh).and z).imp λd q=>⟨q.1.1.1,q.1.1.2.kl,q.1.2,q.2⟩
include H hT hF ht hs
theorem Kh (AS:0<T) {d:bQ} (hd:LD d):∃f e,S0 h d t=some ((f,e),t)/\(I1 t u->f500 h u d=some (f,e)/\∀A G,∃C I,HU d h.Types h.bG u A G=some ((f,e),C,I))/\BRes T F f e/\(e=0->kN (Kn h t) d):=by
 obtain⟨b,k1,k2,k3⟩:=c507 H hT hF ht d hd.fm
 have mk:∀{f e},I1 t u->(∀A G,∃C I,HU d h.Types h.bG u A G=some ((f,e),C,I))->f500 h u d=some (f,e)/\∀A G,∃C I,HU d h.Types h.bG u A G=some ((f,e),C,I):=λ{f e} _ hq=>⟨by
  obtain⟨C,G,z⟩:=hq [] [];refine e500 ?_
  rw[e505 rfl,vZ,z,bq],hq⟩
 cases b with
 |false=>
  refine⟨⟨[]⟩,5,e501a ?_,λD=>mk D λA G=>⟨A,G,e506a ?_⟩, .inr ⟨by decide,rfl⟩,λe=>by omega⟩
  .rw[k1,ak,cond_pos (by rfl)]
  .rw[k2 D,bq,cond_pos (by rfl)]
 |true=>
  have kn:=k3 rfl;have hc1:Can T F ⟨[⟨0,[]⟩]⟩:=YY H hF ⟨af,af⟩;have hdc:=hd.cnt;have r2:∀{A b tg f e},r8 h [⟨0,[]⟩] true [] d t []=some (A,b,t,tg)->(bif(!b) then(some ((FSt.mk ([]:List Node)),(12:Int))) else(Option.bind (f441 h (FSt.mk A)) λq=>bif(!q.2) then(some ((FSt.mk ([]:List Node)),12)) else(bif(decide ((length q.1.az:Int)>4096)) then(some ((FSt.mk ([]:List Node)),7)) else(some (q.1,0)))))=some (f,e)->S0 h d t=some ((f,e),t):=λ{A b tg f e} g z=>by refine e501a ?_;rw[k1,ak,cond_neg (by rfl),c414,ak];show yz Hv [⟨_,[]⟩] ([[]].map some) _=_;rw[qB rfl];show nx (r8 h [⟨0,[]⟩] true [] d t []) _=_;rw[g,cL];revert z;cases b with
   |false=>intro z;rw[cond_pos (by rfl)] at z⊢;cases z;rfl
   |true=>intro z;rw[cond_neg (by rfl)] at z⊢;cases Q:f441 h ⟨A⟩ with
    |none=>rw[Q] at z;cases z
    |some y=>rw[Q,ak] at z;rw[ak];cases V:(!y.2) with
     |true=>rw[V,aj] at z;rw[aj];cases z;rfl
     |false=>rw[V,au] at z;rw[au];cases h3:decide ((y.1.az.length:Int)>4096) with
      |true=>rw[h3,aj] at z;rw[aj];cases z;rfl
      |false=>rw[h3,au] at z;rw[au];cases z;rfl
  have r3:∀{A b G f e},I1 t u->tv d [] h.Types h.bG u [⟨0,[]⟩] []=some (b,A,G)->(bif(!b) then(some ((FSt.mk ([]:List Node)),(12:Int))) else(Option.bind (f434 h (FSt.mk A)) λq=>bif(!q.2) then(some ((FSt.mk ([]:List Node)),12)) else(bif(decide ((length q.1.az:Int)>4096)) then(some ((FSt.mk ([]:List Node)),7)) else(some (q.1,0)))))=some (f,e)->f500 h u d=some (f,e)/\∀A G,∃C I,HU d h.Types h.bG u A G=some ((f,e),C,I):=λ{A b G f e} D g z=>by
   refine mk D λA0 mp0=>⟨A,G,e506a ?_⟩
   rw[k2 D,bq,cond_neg (by rfl),b9 ⟨af,by omega,by decide,af⟩];show eO (tv d [] h.Types h.bG u [⟨0,[]⟩] []) _=_;rw[g,bq];revert z;show _->(bif !b then _ else Option.bind (f434 h ⟨A⟩) _)=_;cases b with
   |false=>intro z;rw[cond_pos (by rfl)] at z⊢;cases z;rfl
   |true=>intro z;rw[cond_neg (by rfl)] at z⊢;cases Q:f434 h ⟨A⟩ with
    |none=>rw[Q] at z;cases z
    |some y=>rw[Q,ak] at z;rw[ak];cases V:(!y.2) with
     |true=>rw[V,aj] at z;rw[aj];cases z;rfl
     |false=>rw[V,au] at z;rw[au];cases h3:decide ((y.1.az.length:Int)>4096) with
      |true=>rw[h3,aj] at z;rw[aj];cases z;rfl
      |false=>rw[h3,au] at z;rw[au];cases z;rfl
  rcases(add_ok H hT hF ht hs d (hd.gd kn) [] (by intro f hf;cases hf) aH).1 [⟨0,[]⟩] [] [] hc1 aH aH .nil with⟨A,tg,G,R,U,gc,gl,gr,gt⟩|⟨A,tg,B,G,R,U,gt⟩
  .have hAn:(FSt.mk A).az.length<=100000:=by
    have:([⟨0,[]⟩]:List Node).length=1:=rfl
    show A.length<=100000;omega
   have i1:=c434 H.hv gc hAn hT af;have i2:=c441 H.hv gc hAn af;have ie:=acW H i1 i2;rcases i2 with⟨tl,O,S,w⟩|⟨O,_⟩
   .have hcr:Can T F (IJ ⟨A⟩ tl):=gc.IJ S.len S.rg;have hrl:(IJ ⟨A⟩ tl).az.length=A.length:=CH S.len;have N:∀{x},x=some (IJ ⟨A⟩ tl,true)->(bif(!true) then(some ((FSt.mk ([]:List Node)),(12:Int))) else(Option.bind x λq=>bif(!q.2) then(some ((FSt.mk ([]:List Node)),12)) else(bif(decide ((length q.1.az:Int)>4096)) then(some ((FSt.mk ([]:List Node)),7)) else(some (q.1,0)))))=if A.length>4096 then some (⟨[]⟩,7) else some (IJ ⟨A⟩ tl,0):=λ{x} P=>by
     rw[cond_neg (by rfl),P,ak,cond_neg (by rfl),hrl];by_cases hb:A.length>4096
     .rw[aC hb,cond_pos (by rw[bN];omega)]
     .rw[aA hb,cond_neg (by rw[bB];omega)]
    by_cases hb:A.length>4096
    .have K:∀{x},x=some (IJ ⟨A⟩ tl,true)->_:=λ{x} P=>(N P).trans (aC hb)
     exact⟨_,_,r2 R (K O),λD=>r3 D (U D) (K (ie.trans O)), .inr ⟨by decide,rfl⟩,λe=>by cases e⟩
    .have K:∀{x},x=some (IJ ⟨A⟩ tl,true)->_:=λ{x} P=>(N P).trans (aA hb)
     exact⟨_,_,r2 R (K O),λD=>r3 D (U D) (K (ie.trans O)), .inl ⟨rfl,hcr,af⟩,λ_=>kn⟩
   .have K:∀{x},x=some (⟨[]⟩,false)->(bif(!true) then(some ((FSt.mk ([]:List Node)),(12:Int))) else(Option.bind x λq=>bif(!q.2) then(some ((FSt.mk ([]:List Node)),12)) else(bif(decide ((length q.1.az:Int)>4096)) then(some ((FSt.mk ([]:List Node)),7)) else(some (q.1,0)))))=some (⟨[]⟩,12):=λ{x} P=>by
     rw[cond_neg (by rfl),P,ak,cond_pos (by rfl)]
    exact⟨_,_,r2 R (K O),λD=>r3 D (U D) (K (ie.trans O)), .inr ⟨by decide,rfl⟩,λe=>by cases e⟩
  .exact⟨⟨[]⟩,12,r2 R (by rw[cond_pos (by rfl)]),λD=>r3 D (U D) (by rw[cond_pos (by rfl)]), .inr ⟨by decide,rfl⟩,λe=>by cases e⟩
end
