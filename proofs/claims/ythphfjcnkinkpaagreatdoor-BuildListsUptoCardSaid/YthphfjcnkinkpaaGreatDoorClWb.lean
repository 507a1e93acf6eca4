/- Build. -/
import Derived.Test.YthphfjcnkinkpaaGreatDoorClWm
import Derived.Test.YthphfjcnkinkpaaGreatDoorClWj
set_option linter.all false
namespace Go.Proofs.YthphfjcnkinkpaaGreatDoor.cl.pf
open Go Go.AM
abbrev iE (F:Nat) (p:List Int):Prop:=∀f∈p,0<=f/\f<(F:Int)
def iE.app {F:Nat} {p q:List Int} (h:iE F p) (w:iE F q):iE F (p++q):=λf z=>(bu.1 z).elim (h f) (w f)
theorem iE.rep {F n:Nat} {a:Int} (h:0<=a/\a<(F:Int)):iE F (List.replicate n a):=λf q=>by rw[(List.mem_replicate.1 q).2];exact h
structure Bk (F:Nat) (tg:List tag) (mp:List (ck×List Int)):Prop where
 get:∀s,getM mp s=(tg.find? λx=>x.Name==s).map (·.Path)
 ok:∀x∈tg,iE F x.Path/\x.Path.length<=200
def Bk.nil {F:Nat}:Bk F [] []:=⟨λs=>by rw[Kr];rfl,λx q=>by cases q⟩
def Bk.snoc {F:Nat} {tg:List tag} {mp:List (ck×List Int)} (h:Bk F tg mp) {s:ck} {p:List Int} (hs:(tg.find? λx=>x.Name==s)=none) (hp:iE F p) (hl:p.length<=200):Bk F (tg++[⟨s,p⟩]) (yt mp s p):=by
 refine⟨λu=> ?_,λx q=> ?_⟩
 .rw[yO,List.find?_append];by_cases e:u=s
  .subst e;rw[aB rfl,hs];simp
  .rw[az e,h.get];cases tg.find? λx=>x.Name==u with
   |some x=>rfl
   |none=>
    have:((⟨s,p⟩:tag).Name==u)=false:=by simpa using λw=>e w.symm
    simp[lR,this]
 .rcases bu.1 q with q|q
  .exact h.ok x q
  .simp at q;subst q;exact⟨hp,hl⟩
def oc {U V W:Type} (x:Option (U×V×W)):(eV x λa b c=>some (a,b,c))=x:=by cases x with
 |none=>rfl
 |some x=>rfl
def Tg (C:FSt) (ρ:ck->Nat) (mp:List (ck×List Int)):Prop:=∀s q,getM mp s=some q->oN C q=some (ρ s)
structure Sem (T F:Nat) (sb:Int->Int->Prop) (P:FSt->(ck->Nat)->Prop) (A:List Node) (mp:List (ck×List Int)) (B:List Node) (C8:List (ck×List Int)):Prop where
 iff:∀C ρ,Can T F C->((Le sb ⟨A⟩ C/\Tg C ρ mp/\P C ρ)↔(Le sb ⟨B⟩ C/\Tg C ρ C8))
 ex:(∃ρ,Tg ⟨A⟩ ρ mp)->∃ρ,Tg ⟨B⟩ ρ C8
def IS (T F:Nat) (sb:Int->Int->Prop) (P:FSt->(ck->Nat)->Prop) (A:List Node) (mp:List (ck×List Int)):Prop:=∀C ρ,Can T F C->Le sb ⟨A⟩ C->Tg C ρ mp->P C ρ->False
section
variable {T F:Nat} {sb:Int->Int->Prop} {P Q:FSt->(ck->Nat)->Prop} {A B D:List Node} {mp C8 Yg:List (ck×List Int)}
def Sem.comp (h:Sem T F sb P A mp B C8) (k:Sem T F sb Q B C8 D Yg):Sem T F sb (λC ρ=>P C ρ/\Q C ρ) A mp D Yg:=
 ⟨λC ρ q=>⟨λ⟨a,b,c,d⟩=>(k.iff C ρ q).1 ⟨((h.iff C ρ q).1 ⟨a,b,c⟩).1,((h.iff C ρ q).1 ⟨a,b,c⟩).2,d⟩,λx=>have y:=(k.iff C ρ q).2 x
  have z:=(h.iff C ρ q).2 ⟨y.1,y.2.1⟩
  ⟨z.1,z.2.1,z.2.2,y.2.2⟩⟩,λw=>k.ex (h.ex w)⟩
def Sem.cg (h:Sem T F sb P A mp B C8) (e:∀C ρ,P C ρ↔Q C ρ):Sem T F sb Q A mp B C8:=⟨λC ρ q=>by rw[<-e];exact h.iff C ρ q,h.ex⟩
def Sem.nil:Sem T F sb (λ_ _=>True) A mp A mp:=⟨λC ρ _=>⟨λ⟨a,b,_⟩=>⟨a,b⟩,λ⟨a,b⟩=>⟨a,b,trivial⟩⟩,λh=>h⟩
def IS.imp (h:IS T F sb P A mp) (e:∀C ρ,Q C ρ->P C ρ):IS T F sb Q A mp:=λC ρ a b c d=>h C ρ a b c (e C ρ d)
def IS.after (h:Sem T F sb P A mp B C8) (k:IS T F sb Q B C8):IS T F sb (λC ρ=>P C ρ/\Q C ρ) A mp:=λC ρ a b c ⟨d,e⟩=>
 have x:=(h.iff C ρ a).1 ⟨b,c,d⟩
 k C ρ a x.1 x.2 e
def Tg.up {f g:FSt} (w:Can T F f) (z:Can T F g) (h:Le sb f g) {ρ:ck->Nat} (ht:Tg f ρ mp):∃ρ,Tg g ρ mp:=by obtain⟨m,h⟩:=h;exact⟨λs=>m (ρ s),λs q G=>A6 w z h (ht s q G)⟩
abbrev DN (sb:Int->Int->Prop) (p:List Int) (g:FSt) (C:FSt):Prop:=Le sb (uG p g) C
abbrev EqS (p q:List Int) (C:FSt):Prop:=∃k,oN C p=some k/\oN C q=some k
def Yx (hT:TO T sb) {f:FSt} (z:Can T F f) {p:List Int} {g k':FSt} (h:RL T F sb f (uG p g) k'):Sem T F sb (λC _=>DN sb p g C) f.ak mp k'.ak mp:=
 ⟨λC ρ w=>⟨λ⟨a,b,c⟩=>⟨h.least C w a c,b⟩,λ⟨a,b⟩=>⟨Le.trans hT h.l a,b,Le.trans hT h.r a⟩⟩,λ⟨ρ,q⟩=>Tg.up z h.can h.l q⟩
end
section
variable {h:aJ} {T F:Nat} {sb:Int->Int->Prop} {bN:Int->Int} {val:Int->Int->Int} (H:HX h T F sb bN val) (hT:T<=1000) (hF:F<=300)
theorem o518 (A:List Node) (p:List Int) (g:FSt) (tg:List tag):f518 h A false p g tg=some (A,false,tg):=e518 (by rw[aA])
theorem adS (A:List Node) (p q:List Int) (tg:List tag):f522 h A false p q tg=some (A,false,tg):=e522 (by rw[aA])
include H hT in
theorem s517 {A:List Node} {b:Bool} {p:List Int} {s:ck} {tg:List tag} {r:List Node×Bool×List tag} (q:f518 h A b p ⟨[⟨jk h s,[]⟩]⟩ tg=some r):f517 h A b p s tg=some r:=by have w:=H.tl;refine e517 ?_;rw[c364 _ _ af,aj,c414,aj];show yD Hf [⟨_,[]⟩] ([[]].map some) _=_;rw[qc rfl];show eV (f518 h A b p ⟨[⟨_,[]⟩]⟩ tg) _=_;rw[oc];exact q
include H hT in
theorem TT (A:List Node) (p:List Int) (s:ck) (tg:List tag):f517 h A false p s tg=some (A,false,tg):=s517 H hT (o518 A p _ tg)
include H hF
theorem s_put {A:List Node} (z:Can T F ⟨A⟩) {g:FSt} (G:Can T F g) {p:List Int} (hp:iE F p) (N:A.length+(p.length+g.ak.length)<=1000000) (t:List Template) (tg:List tag):
  (∃B,f518 h A true p g tg=some (B,true,tg)/\(∀mp,Ng p g h.Types h.bD t A mp=some (true,B,mp))/\Can T F ⟨B⟩/\B.length<=A.length+(p.length+g.ak.length)/\RL T F sb ⟨A⟩ (uG p g) ⟨B⟩)\/
  (∃B,f518 h A true p g tg=some (B,false,tg)/\(∀mp,Ng p g h.Types h.bD t A mp=some (false,A,mp))/\∀C,Can T F C->Le sb ⟨A⟩ C->DN sb p g C->False):=by
 have q:0<T:=by have:=z.go.tp 0 z.ne;omega
 have O:=Rr q af hp G (YS G af af);rcases at_same H.hv.hm z G q hF hp N with⟨f,I,K,w⟩|⟨I,K,w⟩
 .refine .inl ⟨f.ak,e518 ?_,λmp=>e531a ?_,w.can,?_,w⟩
  .rw[au,K,aj]
  .rw[show aJ.mk h.Types h.bD=h from rfl,I,aj,au]
  .have:=RL.size H.hv z O w;rw[C0] at this;exact this
 .refine .inr ⟨[],e518 ?_,λmp=>e531a ?_,w⟩
  .rw[au,K,aj]
  .rw[show aJ.mk h.Types h.bD=h from rfl,I,aj,aA]
theorem Fy {t:Int} (ht:0<=t/\t<(T:Int)):Can T F ⟨[⟨t,[]⟩]⟩:=vt (T:=T) (F:=F) (π:=[]) (t:=t) af ai ht
theorem ad7 {A:List Node} (G:Can T F ⟨A⟩) {ty:Int} (ht:0<=ty/\ty<(T:Int)) {p:List Int} (hp:iE F p) (I:A.length+(p.length+1)<=1000000) (t:List Template) (tg:List tag):
  (∃B,f518 h A true p ⟨[⟨ty,[]⟩]⟩ tg=some (B,true,tg)/\(∀mp,vY p ty h.Types h.bD t A mp=some (true,B,mp))/\Can T F ⟨B⟩/\B.length<=A.length+(p.length+1)/\RL T F sb ⟨A⟩ (uG p ⟨[⟨ty,[]⟩]⟩) ⟨B⟩)\/
  (∃B,f518 h A true p ⟨[⟨ty,[]⟩]⟩ tg=some (B,false,tg)/\(∀mp,vY p ty h.Types h.bD t A mp=some (false,A,mp))/\∀C,Can T F C->Le sb ⟨A⟩ C->DN sb p ⟨[⟨ty,[]⟩]⟩ C->False):=by
 rcases s_put H hF G (Fy H hF ht) hp I t tg with⟨B,q,w,z,K⟩|⟨B,q,w,z⟩
 .exact .inl ⟨B,q,λmp=>e530a (by rw[w,bG]),z,K⟩
 .exact .inr ⟨B,q,λmp=>e530a (by rw[w,bG]),z⟩
include hT in
theorem ad9 {A:List Node} (G:Can T F ⟨A⟩) {s:ck} (ht:0<=jk h s) {p:List Int} (hp:iE F p) (I:A.length+(p.length+1)<=1000000) (t:List Template) (tg:List tag) (mp:List (ck×List Int)):
  (∃B,f517 h A true p s tg=some (B,true,tg)/\vY p (jk h s) h.Types h.bD t A mp=some (true,B,mp)/\Can T F ⟨B⟩/\B.length<=A.length+(p.length+1)/\Sem T F sb (λC _=>DN sb p ⟨[⟨jk h s,[]⟩]⟩ C) A mp B mp)\/
  (∃B,f517 h A true p s tg=some (B,false,tg)/\vY p (jk h s) h.Types h.bD t A mp=some (false,A,mp)/\IS T F sb (λC _=>DN sb p ⟨[⟨jk h s,[]⟩]⟩ C) A mp):=by
 have K:=H.tl
 have:jk h s<(h.Types.length:Int):=(Jg _ _).1
 rcases ad7 H hF G (ty:=jk h s) ⟨ht,af⟩ hp I t tg with⟨B,q,w,z,N,O⟩|⟨B,q,w,z⟩
 .exact .inl ⟨B,s517 H hT q,w mp,z,N,Yx H.hv.hm.to G O⟩
 .exact .inr ⟨B,s517 H hT q,w mp,λC ρ a b _ d=>z C a b d⟩
theorem s_eq {A:List Node} (z:Can T F ⟨A⟩) {p q:List Int} (hp:iE F p) (V:iE F q) (K:p.length<=1000) (N:q.length<=1000) (U:A.length<=900000) (t:List Template) (tg:List tag) (mp:List (ck×List Int)):
  (∃B,f522 h A true p q tg=some (B,true,tg)/\Kh p q h.Types h.bD t A mp=some (true,B,mp)/\Can T F ⟨B⟩/\B.length<=A.length+(p.length+1)+(q.length+1)/\Sem T F sb (λC _=>EqS p q C) A mp B mp)\/
  (∃B,f522 h A true p q tg=some (B,false,tg)/\Kh p q h.Types h.bD t A mp=some (false,A,mp)/\IS T F sb (λC _=>EqS p q C) A mp):=by
 have I:0<T:=by have:=z.go.tp 0 z.ne;omega
 rcases abA H.hv.hm z hp V K N I hF U with⟨f,O,R,w,j4⟩|⟨O,R,w⟩
 .refine .inl ⟨f.ak,e522 ?_,e532a ?_,w.can,j4,λC ρ G=>⟨λ⟨a,b,c⟩=>⟨w.least C G a c,b⟩,λ⟨a,b⟩=>⟨Le.trans H.hv.hm.to w.l a,b,?_⟩⟩,λ⟨ρ,S⟩=>Tg.up z w.can w.l S⟩
  .rw[au,R,aj]
  .rw[show aJ.mk h.Types h.bD=h from rfl,O,aj,au]
  .obtain⟨m,a⟩:=a;obtain⟨k,k1,k2⟩:=w.at_;exact⟨m k,A6 w.can G a k1,A6 w.can G a k2⟩
 .refine .inr ⟨[],e522 ?_,e532a ?_,λC ρ a b _ d=>w C a b d⟩
  .rw[au,R,aj]
  .rw[show aJ.mk h.Types h.bD=h from rfl,O,aj,aA]
omit H hF in
theorem h519 {p:List Int} {s:ck} {A:List Node} {ok:Bool} {o:state} {tg:List tag} (hl:tg.length<=100000) {r:List Node×Bool×List tag}:∀(xs:List tag) (i:Nat),tg.drop i=xs->
  (match xs.find? λx=>x.Name==s with
   |some x=>f522 h A ok x.Path p tg
   |none=>f518 h A ok p ⟨[⟨0,[]⟩]⟩ (tg++[⟨s,p⟩]))=some r->Rb p s i h A ok o tg=some r:=by
 intro xs;induction xs with
 |nil=>intro i q w;refine adh ?_;rw[bp q,aA,cC _ af ai af,c414,aj];show yD Hf [⟨_,[]⟩] ([[]].map some) _=_;rw[qc rfl];show eV (f518 h A ok p ⟨[⟨0,[]⟩]⟩ _) _=_;rw[oc];exact w
 |cons x xs ih=>intro i q w;refine adh ?_;rw[aT q,au,od q,oa q];cases e:x.Name==s with
  |true=>rw[lR,e] at w;rw[au,od q,oa q,oc];exact w
  |false=>rw[lR,e] at w;rw[aA,aQ q af];exact ih (i+1) (aI q) w
omit H hF in
theorem o519 {A:List Node} {p:List Int} {s:ck} {tg:List tag} (hl:tg.length<=100000):∃q,f519 h A false p s tg=some (A,false,q)/\q.length<=tg.length+1:=by
 have key:=λr=>h519 (h:=h) (p:=p) (s:=s) (A:=A) (ok:=false) (o:=⟨⟨[]⟩,false,[]⟩) hl (r:=r) tg 0 rfl
 cases e:tg.find? λx=>x.Name==s with
 |some x=>exact⟨tg,e519 (key _ (by rw[e];exact adS A _ p tg)),af⟩
 |none=>exact⟨tg++[⟨s,p⟩],e519 (key _ (by rw[e];exact o518 A p _ _)),ai⟩
noncomputable abbrev Wy (h:aJ) (t:List Template) (s:ck) (p:List Int) (A:List Node) (mp:List (ck×List Int)):Option (Bool×List Node×List (ck×List Int)):=
 A7 mp s (λy=>eV (Kh y p h.Types h.bD t A mp) λa b c=>some (a,b,c)) (Bm (yt mp s p) λm=>eV (vY p 0 h.Types h.bD t A m) λa b c=>some (a,b,c))
omit H hF in
theorem Uy:∀(k:Nat) (p:List Int) (t:Int),Ek k p++[⟨t,[]⟩]=wS k p t
 |_,[],_=>rfl
 |k,f::p,t=>by rw[wS,<-Uy (k+1) p t];rfl
omit H hF in
theorem und_chn (p:List Int) (t:Int):uG p ⟨[⟨t,[]⟩]⟩=sR p t:=aP FSt.mk (Uy 0 p t)
theorem s_tag {A:List Node} (V:Can T F ⟨A⟩) {s:ck} {p:List Int} (hp:iE F p) (RC:p.length<=200) (hn:A.length<=900000) (t:List Template) {tg:List tag} {mp:List (ck×List Int)} (hr:Bk F tg mp) (hl:tg.length<=10000):
  (∃B w C8,f519 h A true p s tg=some (B,true,w)/\Wy h t s p A mp=some (true,B,C8)/\Can T F ⟨B⟩/\B.length<=A.length+402/\Bk F w C8/\w.length<=tg.length+1/\Sem T F sb (λC ρ=>oN C p=some (ρ s)) A mp B C8)\/
  (∃B w C8,f519 h A true p s tg=some (B,false,w)/\Wy h t s p A mp=some (false,A,C8)/\w.length<=tg.length+1/\IS T F sb (λC ρ=>oN C p=some (ρ s)) A mp):=by
 have key:=λr=>h519 (h:=h) (p:=p) (s:=s) (A:=A) (ok:=true) (o:=⟨⟨[]⟩,false,[]⟩) af (r:=r) tg 0 rfl
 have uL:0<T:=by have:=V.go.tp 0 V.ne;omega
 have G:=hr.get s;cases e:tg.find? λx=>x.Name==s with
 |some x=>
  rw[e] at G;obtain⟨o1,o2⟩:=hr.ok x (nJ e);rcases s_eq H hF V o1 hp af af hn t tg mp with⟨B,R,S,K,j4,N⟩|⟨B,R,S,K⟩
  .refine .inl ⟨B,tg,mp,e519 (key _ (by rw[e];exact R)),by unfold Wy;rw[Am G,oc,S],K,by omega,hr,by omega,λC ρ I=>⟨λ⟨a,b,c⟩=>(N.iff C ρ I).1 ⟨a,b,ρ s,b s _ G,c⟩,λx=> ?_⟩,N.ex⟩;obtain⟨a,b,k,k1,k2⟩:=(N.iff C ρ I).2 x;rw[b s _ G] at k1;cases k1;exact⟨a,b,k2⟩
  .exact .inr ⟨B,tg,mp,e519 (key _ (by rw[e];exact R)),by unfold Wy;rw[Am G,oc,S],by omega,λC ρ a b c d=>K C ρ a b c ⟨ρ s,c s _ G,d⟩⟩
 |none=>
  rw[e] at G;have O:∀C,Can T F C->(DN sb p ⟨[⟨0,[]⟩]⟩ C↔∃k,oN C p=some k):=λC I=>by show Le sb (uG p _) C↔_;rw[und_chn,OE H.hv.hm.to hp ⟨jK 0,af⟩ I];refine⟨λ⟨k,a,_⟩=>⟨k,a⟩,λ⟨k,a⟩=>⟨k,a,?_⟩⟩;have:=I.go.tp _ (I.IL (xm (λi _=>I.vP i) _ 0 _ .root a));exact H.hv.hm.to.top this.1 this.2
  have htg:∀C ρ,Tg C ρ (yt mp s p)↔Tg C ρ mp/\oN C p=some (ρ s):=λC ρ=>by
   refine⟨λx=>⟨λu q z=>x u q ?_,x s p (by rw[yO,aB rfl])⟩,λ⟨x,y⟩ u q z=> ?_⟩
   .rw[yO,az (λU=>by subst U;rw[G] at z;cases z)];exact z
   .rw[yO] at z;split at z
    .rename_i U;cases z;rw[U];exact y
    .exact x u q z
  rcases ad7 H hF V (ty:=0) ⟨af,af⟩ hp af t (tg++[⟨s,p⟩]) with⟨B,R,S,K,j4,N⟩|⟨B,R,S,K⟩
  .refine .inl ⟨B,_,_,e519 (key _ (by rw[e];exact R)),by unfold Wy;rw[Aj G,CN,oc,S],K,by omega,hr.snoc e hp RC,by simp,λC ρ I=> ?_,λ⟨ρ,h0⟩=> ?_⟩
   .rw[htg];exact⟨λ⟨a,b,c⟩=>⟨N.least C I a ((O C I).2 ⟨_,c⟩),b,c⟩,λ⟨a,b,c⟩=>⟨Le.trans H.hv.hm.to N.l a,b,c⟩⟩
   .obtain⟨k,hk⟩:=(O _ K).1 N.r;obtain⟨ρ',h1⟩:=Tg.up V K N.l h0;refine⟨λu=>if u=s then k else ρ' u,(htg _ _).2 ⟨λu q z=> ?_,by simp only[gV];exact hk⟩⟩;simp only[];rw[az (λU=>by subst U;rw[G] at z;cases z)];exact h1 u q z
  .exact .inr ⟨B,_,_,e519 (key _ (by rw[e];exact R)),by unfold Wy;rw[Aj G,CN,oc,S],by simp,λC ρ a b c d=>K C a b ((O C a).2 ⟨_,d⟩)⟩
end
end Go.Proofs.YthphfjcnkinkpaaGreatDoor.cl.pf
namespace Go.Proofs.YthphfjcnkinkpaaGreatDoor.cl.pf
open Go Go.AM
def RU {U V W X:Type} (x:Option (U×V×W×X)):(mA x λa b c d=>some (a,b,c,d))=x:=by cases x with
 |none=>rfl
 |some x=>rfl
def qK {U V W X:Type} {x:Option (U×V×W)} {t:X} {a:U} {b:V} {c:W} (h:x=some (a,b,c)):(eV x λa b c=>some (a,b,t,c))=some (a,b,t,c):=by rw[h];rfl
def UM (T F:Nat) (t:List Template):Prop:=∀x∈t,Can T F x.gO/\x.gO.ak.length<=4096
abbrev e7 (h:aJ) (p:List Int) (i:Nat):List Int:=p++List.replicate i (eY h pH)
abbrev lZ (h:aJ) (p:List Int):List Int:=p++[eY h rB]
section
variable (h:aJ) (t:List Template) (sb:Int->Int->Prop) (C:FSt) (ρ:ck->Nat)
def JH (s:ck) (p:List Int):Prop:=DN sb p ⟨[⟨jk h s,[]⟩]⟩ C
mutual
def Sat:bJ->List Int->Prop
 | .mk op nm ph ks,p=>
  if op=1 then JH h sb C nm p
  else if op=2 then∃(i:Nat) (x:Template),tpos t nm=(i:Int)/\t[i]? =some x/\DN sb p x.gO C
  else if op=3 then oN C p=some (ρ nm)
  else if op=4 then wR ks p
  else if op=5 then wR ks (p++ph.map (eY h))
  else if op=6 then El ks p/\JH h sb C ud (e7 h p ks.length)
  else if op=7 then RB ks p
  else JH h sb C qT p/\El ks (lZ h p)/\JH h sb C uc (e7 h (lZ h p) ks.length)/\EqS (e7 h (lZ h p) ks.length) (p++[eY h rC]) C
def wR:List bJ->List Int->Prop
 |[],_=>True
 |x::l,p=>Sat x p/\wR l p
def El:List bJ->List Int->Prop
 |[],_=>True
 |x::l,p=>JH h sb C wL p/\Sat x (p++[eY h je])/\El l (p++[eY h pH])
def RB:List bJ->List Int->Prop
 |[],_=>True
 |x::l,p=>(l=[]/\Sat x p)\/(l≠[]/\JH h sb C wL p/\Sat x (p++[eY h je])/\RB l (p++[eY h pH]))
end
variable {h t sb C ρ}
theorem uu {d:bJ} {p:List Int}:Sat h t sb C ρ d p=(if d.Op=1 then JH h sb C d.Name p
  else if d.Op=2 then∃(i:Nat) (x:Template),tpos t d.Name=(i:Int)/\t[i]? =some x/\DN sb p x.gO C
  else if d.Op=3 then oN C p=some (ρ d.Name)
  else if d.Op=4 then wR h t sb C ρ d.Kids p
  else if d.Op=5 then wR h t sb C ρ d.Kids (p++d.Path.map (eY h))
  else if d.Op=6 then El h t sb C ρ d.Kids p/\JH h sb C ud (e7 h p d.Kids.length)
  else if d.Op=7 then RB h t sb C ρ d.Kids p
  else JH h sb C qT p/\El h t sb C ρ d.Kids (lZ h p)/\JH h sb C uc (e7 h (lZ h p) d.Kids.length)/\EqS (e7 h (lZ h p) d.Kids.length) (p++[eY h rC]) C):=by
 cases d;rw[Sat];rfl
theorem Lq {p:List Int} {i:Nat}:e7 h p (i+1)=e7 h p i++[eY h pH]:=by rw[e7,e7,vh,ee]
theorem WI {p:List Int} {i:Nat}:e7 h p (i+1)=e7 h (p++[eY h pH]) i:=by rw[e7,e7,oR,ee];rfl
theorem TU {x:bJ}:∀{l:List bJ} {p:List Int},RB h t sb C ρ (l++[x]) p↔El h t sb C ρ l p/\Sat h t sb C ρ x (e7 h p l.length)
 |[],p=>by rw[dK,RB,El];simp[RB,e7]
 |y::l,p=>by rw[gF,RB,El,TU (l:=l),bz,WI];simp[rM]
end
def Sim (T F:Nat) (sb:Int->Int->Prop) (t u:List Template) (P:FSt->(ck->Nat)->Prop) (A:List Node) (mp:List (ck×List Int)) (n k:Nat) (w:Option (List Node×Bool×List Template×List tag)) (q:Option (Bool×List Node×List (ck×List Int))):Prop:=
 (∃B tg C8,w=some (B,true,t,tg)/\(Hi t u->q=some (true,B,C8))/\Can T F ⟨B⟩/\B.length+400<=n/\Bk F tg C8/\tg.length<=k/\Sem T F sb P A mp B C8)\/
 (∃B tg D C8,w=some (B,false,t,tg)/\(Hi t u->q=some (false,D,C8))/\tg.length<=k/\IS T F sb P A mp)
def Off (t:List Template) (k:Nat) (A:List Node) (q:Option (List Node×Bool×List Template×List tag)):Prop:=
 ∃tg,q=some (A,false,t,tg)/\tg.length<=k
def Dc (h:aJ) (T F:Nat) (sb:Int->Int->Prop) (t u:List Template) (d:bJ):Prop:=∀p,iE F p->p.length+14 *iQ d<=200->
 (∀A tg mp,Can T F ⟨A⟩->A.length+5000 *iQ d<=139400->tg.length+iQ d<=1000->Bk F tg mp->
  Sim T F sb t u (λC ρ=>Sat h t sb C ρ d p) A mp (A.length+5000 *iQ d) (tg.length+iQ d) (kR h A true p d t tg) (oG d p h.Types h.bD u A mp))/\
 ∀A tg,tg.length+iQ d<=1000->Off t (tg.length+iQ d) A (kR h A false p d t tg)
def yJ (d:bJ):1<=iQ d:=by rw[DU];omega
theorem rf {x:bJ}:∀{l:List bJ},x∈l->iQ x<=dV l
 |y::l,h=>by
  rw[dV];rcases aN.1 h with rfl|h
  .omega
  .have:=rf h;omega
section
variable {h:aJ} {T F:Nat} {sb:Int->Int->Prop} {bN:Int->Int} {val:Int->Int->Int} (H:HX h T F sb bN val) (hT:T<=1000) (hF:F<=300) {t u:List Template} (ht:t.length<=1000) (hs:UM T F t)
section
variable {p:List Int} (hp:iE F p) {d:bJ} (hl:d.Kids.length<=256) (ih:∀k∈d.Kids,Dc h T F sb t u k)
include hp hl ih
theorem o_and {o:state}:∀(xs:List bJ) (i:Nat) (A:List Node) (tg:List tag),d.Kids.drop i=xs->(∀x∈xs,p.length+14 *iQ x<=200)->tg.length+dV xs<=1000->
  Off t (tg.length+dV xs) A (wN p d.Kids.length i h A false d o t tg):=by
 intro xs;induction xs with
 |nil=>intro i A tg q _ _;exact⟨tg,yR (by rw[bp q,aA]),af⟩
 |cons x xs I=>
  intro i A tg q w G;simp only[dV] at G⊢;have O:=w x ai;have z:∀y∈xs,p.length+14 *iQ y<=200:=λy S=>w y (by simp[S])
  obtain⟨K,R,V⟩:=(ih x (aV (cr q)) p hp af).2 A tg af;obtain⟨N,U,j3⟩:=I (i+1) A K (aI q) z af;exact⟨N,yR (by rw[aT q,au,aK q,R,cF,aQ q af];exact U),af⟩
theorem s_and {o:state}:∀(xs:List bJ) (i:Nat) (A:List Node) (tg:List tag) (mp:List (ck×List Int)),d.Kids.drop i=xs->(∀x∈xs,p.length+14 *iQ x<=200)->Can T F ⟨A⟩->A.length+5000 *dV xs<=139400->tg.length+dV xs<=1000->Bk F tg mp->
  (∃B z C8,wN p d.Kids.length i h A true d o t tg=some (B,true,t,z)/\(Hi t u->CW d.Kids d.Kids.length i p h.Types h.bD u A mp=some (-1,B,C8))/\Can T F ⟨B⟩/\B.length<=A.length+5000 *dV xs/\Bk F z C8/\z.length<=tg.length+dV xs/\Sem T F sb (λC ρ=>wR h t sb C ρ xs p) A mp B C8)\/
  (∃B z C C8 v,wN p d.Kids.length i h A true d o t tg=some (B,false,t,z)/\(Hi t u->CW d.Kids d.Kids.length i p h.Types h.bD u A mp=some (v,C,C8))/\0<=v/\z.length<=tg.length+dV xs/\IS T F sb (λC ρ=>wR h t sb C ρ xs p) A mp):=by
 intro xs;induction xs with
 |nil=>intro i A tg mp w _ hA _ _ hr;exact .inl ⟨A,tg,mp,yR (by rw[bp w,aA]),λ_=>I9 (by rw[bp w,aA]),hA,by omega,hr,by omega,Sem.nil.cg λC ρ=>by rw[wR]⟩
 |cons x xs ihx=>
  intro i A tg mp w R hA hAx htx hr;simp only[dV] at hAx htx⊢;have hpx1:=R x ai;have N:∀y∈xs,p.length+14 *iQ y<=200:=λy hy=>R y (by simp[hy])
  have hx1:=yJ x;have ec:∀C ρ,(Sat h t sb C ρ x p/\wR h t sb C ρ xs p)↔wR h t sb C ρ (x::xs) p:=λC ρ=>by rw[wR]
  rcases(ih x (aV (cr w)) p hp af).1 A tg mp hA af af hr with⟨B,O,K,U,g3,gc,gl,gr,gt,V⟩|⟨B,O,C,K,U,g3,gt,V⟩
  .have q:Hi t u->abD x p h.Types h.bD u A mp=some (false,B,K):=λI=>e557a (by rw[g3 I,bG];rfl)
   rcases ihx (i+1) B O K (aI w) N gc af af gr with⟨D,G,Yg,S,j3,jc,jl,jr,jt,js⟩|⟨D,G,C,Yg,v,S,j3,jv,jt,js⟩
   .refine .inl ⟨D,G,Yg,yR ?_,λI=>I9 ?_,jc,by omega,jr,by omega,(V.comp js).cg ec⟩
    .rw[aT w,au,aK w,U,cF,aQ w af];exact S
    .rw[aT w,au,aK w,q I,bG,aA,aQ w af];exact j3 I
   .refine .inr ⟨D,G,C,Yg,v,yR ?_,λI=>I9 ?_,jv,by omega,(IS.after V js).imp λC ρ=>(ec C ρ).2⟩
    .rw[aT w,au,aK w,U,cF,aQ w af];exact S
    .rw[aT w,au,aK w,q I,bG,aA,aQ w af];exact j3 I
  .obtain⟨G,S,jt⟩:=o_and hp hl ih (o:=o) xs (i+1) B O (aI w) N af;refine .inr ⟨B,G,C,K,i,yR ?_,λI=>I9 ?_,by omega,by omega,V.imp λC ρ a=>((ec C ρ).2 a).1⟩
   .rw[aT w,au,aK w,U,cF,aQ w af];exact S
   .rw[aT w,au,aK w,e557a (by rw[g3 I,bG]),bG];rfl
end
section
include H hF
theorem h508p {d:bJ} (hl:d.Path.length<=64) {A:List Node} {ok:Bool} {o:state} {tg:List tag}:∀(xs:List ck) (i:Nat) (p:List Int),d.Path.drop i=xs->p.length<=1000+i->
  ∀r,(bq d.Kids 0 λx=>kR h A ok (p++xs.map (eY h)) x t tg)=some r->Ga i h A ok d o p t tg=some r:=by
 have z:=H.hv.fl;intro xs;induction xs with
 |nil=>intro i p q _ r w;simp only[ey,eo] at w;refine Tl ?_;rw[bp q,aA];simp only[RU];exact w
 |cons x xs ih=>intro i p q hp r w;have G:=dY q;rw[bH,List.append_cons] at w;refine Tl ?_;rw[aT q,au,aK q,xZ _ _ af,aj,cC _ af ai af,aQ q af];exact ih (i+1) (p++[eY h x]) (aI q) aH r w
theorem Af {s:ck} (q:0<=eY h s):0<=eY h s/\eY h s<(F:Int):=by
 have:eY h s<(h.bD.length:Int):=(Jg _ _).1
 have:=H.hv.fl;exact⟨q,af⟩
end
section
include H hT hF
variable (L:LT h) {p:List Int} (hp:iE F p) {l:List bJ} (hl:l.length<=12) (ih:∀k∈l,Dc h T F sb t u k)
include L hp in
theorem Cj (i:Nat):iE F (e7 h p i):=hp.app (iE.rep (Af H hF L.re))
include L hp hl ih
theorem NN {o:state}:∀(xs:List bJ) (i:Nat) (A:List Node) (tg:List tag),l.drop i=xs->(∀x∈xs,p.length+13+14 *iQ x<=200)->tg.length+dV xs<=1000->
  Off t (tg.length+dV xs) A (vE p l i h A false o t tg):=by
 have U:=H.hv.fl;intro xs;induction xs with
 |nil=>intro i A tg q _ _;exact⟨tg,Ai (by rw[bp q,aA]),af⟩
 |cons x xs I=>
  intro i A tg q w G;have hi:=dY q;simp only[dV] at G⊢;have O:=w x ai;have z:∀y∈xs,p.length+13+14 *iQ y<=200:=λy V=>w y (by simp[V])
  have R:f521 p (eY h pH) (i:Int)=some (e7 h p i):=Ou af;have c2:f521 (e7 h p i) (eY h je) 1=some (e7 h p i++[eY h je]):=Ou (n:=1) aH;obtain⟨K,S,g3⟩:=(ih x (aV (cr q)) (e7 h p i++[eY h je]) ((Cj H hT hF L hp i).app (iE.rep (n:=1) (Af H hF L.fi))) aH).2 A tg af;obtain⟨N,j2,j3⟩:=I (i+1) A K (aI q) z af;refine⟨N,Ai ?_,af⟩;rw[aT q,au,xZ _ _ af,aj,R,aj,TT H hT,bG,xZ _ _ af,aj,c2,aj,aK q,S,cF,aQ q af];exact j2
theorem ad8 {o:state}:∀(xs:List bJ) (i:Nat) (A:List Node) (tg:List tag) (mp:List (ck×List Int)),l.drop i=xs->(∀x∈xs,p.length+13+14 *iQ x<=200)->Can T F ⟨A⟩->A.length+5000 *dV xs<=139100->tg.length+dV xs<=1000->Bk F tg mp->
  (∃B z C8,vE p l i h A true o t tg=some (B,true,t,z)/\(Hi t u->CV (e7 h p i) l l.length i h.Types h.bD u A mp=some ((e7 h p (i+xs.length),true),B,C8))/\Can T F ⟨B⟩/\B.length<=A.length+5000 *dV xs/\Bk F z C8/\z.length<=tg.length+dV xs/\Sem T F sb (λC ρ=>El h t sb C ρ xs (e7 h p i)) A mp B C8)\/
  (∃B z C C8,vE p l i h A true o t tg=some (B,false,t,z)/\(Hi t u->CV (e7 h p i) l l.length i h.Types h.bD u A mp=some (([],false),C,C8))/\z.length<=tg.length+dV xs/\IS T F sb (λC ρ=>El h t sb C ρ xs (e7 h p i)) A mp):=by
 have hfl:=H.hv.fl;have RD:=H.tl;intro xs;induction xs with
 |nil=>intro i A tg mp q _ hA _ _ hr;exact .inl ⟨A,tg,mp,Ai (by rw[bp q,aA]),λ_=>Fi (by rw[bp q,aA];rfl),hA,by omega,hr,by omega,Sem.nil.cg λC ρ=>by rw[El]⟩
 |cons x xs ihx=>
  intro i A tg mp q U hA hAx htx hr;have hi:=dY q;simp only[dV] at hAx htx⊢;have hpx1:=U x ai;have G:∀y∈xs,p.length+13+14 *iQ y<=200:=λy hy=>U y (by simp[hy])
  have hx1:=yJ x;have hq:=Cj H hT hF L hp i;have hql:(e7 h p i).length=p.length+i:=ai;have V:=ih x (aV (cr q)) (e7 h p i++[eY h je]) (hq.app (iE.rep (n:=1) (Af H hF L.fi))) aH;have c0:f352 (aJ.mk h.Types h.bD) wL=some (jk h wL):=Zg _ h af;have c1:f521 p (eY h pH) (i:Int)=some (e7 h p i):=Ou af;have c2:f521 (e7 h p i) (eY h je) 1=some (e7 h p i++[eY h je]):=Ou (n:=1) af;have m1:∀A mp,BU (e7 h p i) [je] h.Types h.bD u A mp=some (e7 h p i++[eY h je],A,mp):=λA mp=>aa8 af ai af
  have m2:∀A mp,BU (e7 h p i) [pH] h.Types h.bD u A mp=some (e7 h p (i+1),A,mp):=λA mp=>by rw[aa8 af ai af,Lq];rfl
  have el:i+1+xs.length=i+(x::xs).length:=aH;have S:∀C ρ,(JH h sb C wL (e7 h p i)/\Sat h t sb C ρ x (e7 h p i++[eY h je])/\El h t sb C ρ xs (e7 h p (i+1)))↔El h t sb C ρ (x::xs) (e7 h p i):=λC ρ=>by rw[El,Lq]
  rcases ad9 H hT hF hA L.co hq af u tg mp with⟨B,j1,j2,j3,j4,j5⟩|⟨B,j1,j2,j5⟩
  .rcases V.1 B tg mp j3 af af hr with⟨C,I,O,R,g3,gc,gl,gr,gt,gs⟩|⟨C,I,D,O,R,g3,gt,gs⟩
   .rcases ihx (i+1) C I O (aI q) G gc af af gr with⟨D,w,Yg,N,k3,kc,kl,kr,kt,ks⟩|⟨D,w,E,Yg,N,k3,kt,ks⟩
    .refine .inl ⟨D,w,Yg,Ai ?_,λK=>Fi ?_,kc,by omega,kr,by omega,(j5.comp (gs.comp ks)).cg S⟩
     .rw[aT q,au,xZ _ _ af,aj,c1,aj,j1,bG,xZ _ _ af,aj,c2,aj,aK q,R,cF,aQ q af];exact N
     .rw[aT q,au,aK q,c0,aj,j2,bG,cond_neg (by rfl),m1,bG,g3 K,bG,cond_neg (by rfl),m2,bG,aQ q af,<-el];exact k3 K
    .refine .inr ⟨D,w,E,Yg,Ai ?_,λK=>Fi ?_,by omega,(IS.after j5 (IS.after gs ks)).imp λC ρ=>(S C ρ).2⟩
     .rw[aT q,au,xZ _ _ af,aj,c1,aj,j1,bG,xZ _ _ af,aj,c2,aj,aK q,R,cF,aQ q af];exact N
     .rw[aT q,au,aK q,c0,aj,j2,bG,cond_neg (by rfl),m1,bG,g3 K,bG,cond_neg (by rfl),m2,bG,aQ q af];exact k3 K
   .obtain⟨w,N,kt⟩:=NN H hT hF L hp hl ih (o:=o) xs (i+1) C I (aI q) G af;refine .inr ⟨C,w,D,O,Ai ?_,λK=>Fi ?_,by omega,(IS.after j5 gs).imp λC ρ a=>⟨((S C ρ).2 a).1,((S C ρ).2 a).2.1⟩⟩
    .rw[aT q,au,xZ _ _ af,aj,c1,aj,j1,bG,xZ _ _ af,aj,c2,aj,aK q,R,cF,aQ q af];exact N
    .rw[aT q,au,aK q,c0,aj,j2,bG,cond_neg (by rfl),m1,bG,g3 K,bG,cond_pos (by rfl)]
  .obtain⟨I,R,gt⟩:=V.2 B tg af;obtain⟨w,N,kt⟩:=NN H hT hF L hp hl ih (o:=o) xs (i+1) B I (aI q) G af;refine .inr ⟨B,w,A,mp,Ai ?_,λK=>Fi ?_,by omega,j5.imp λC ρ a=>((S C ρ).2 a).1⟩
   .rw[aT q,au,xZ _ _ af,aj,c1,aj,j1,bG,xZ _ _ af,aj,c2,aj,aK q,R,cF,aQ q af];exact N
   .rw[aT q,au,aK q,c0,aj,j2,bG,cond_pos (by rfl)]
end
end
