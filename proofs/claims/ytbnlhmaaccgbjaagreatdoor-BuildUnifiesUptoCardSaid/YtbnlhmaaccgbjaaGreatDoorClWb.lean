/- Build. -/
import Derived.Test.YtbnlhmaaccgbjaaGreatDoorClWj
set_option linter.all false
namespace Go.Proofs.YtbnlhmaaccgbjaaGreatDoor.cl.pf
open Go Go.AM
abbrev jJ (F:Nat) (p:List Int):Prop:=∀f∈p,0<=f/\f<(F:Int)
def jJ.app {F:Nat} {p q:List Int} (h:jJ F p) (w:jJ F q):jJ F (p++q):=λf z=>(bu.1 z).elim (h f) (w f)
theorem jJ.rep {F n:Nat} {a:Int} (h:0<=a/\a<(F:Int)):jJ F (List.replicate n a):=λf q=>by rw[(List.mem_replicate.1 q).2];exact h
structure Ea (F:Nat) (tg:List tag) (mp:List (b9×List Int)):Prop where
 get:∀s,getM mp s=(tg.find? λx=>x.Name==s).map (·.Path)
 ok:∀x∈tg,jJ F x.Path/\x.Path.length<=200
def Ea.nil {F:Nat}:Ea F [] []:=⟨λs=>by rw[Kg];rfl,λx q=>by cases q⟩
def Ea.snoc {F:Nat} {tg:List tag} {mp:List (b9×List Int)} (h:Ea F tg mp) {s:b9} {p:List Int} (hs:(tg.find? λx=>x.Name==s)=none) (hp:jJ F p) (hl:p.length<=200):Ea F (tg++[⟨s,p⟩]) (yC mp s p):=by
 refine⟨λu=> ?_,λx q=> ?_⟩
 .rw[yg,List.find?_append];by_cases e:u=s
  .subst e;rw[aB rfl,hs];simp
  .rw[au e,h.get];cases tg.find? λx=>x.Name==u with
   |some x=>rfl
   |none=>
    have:((⟨s,p⟩:tag).Name==u)=false:=by simpa using λw=>e w.symm
    simp[lZ,this]
 .rcases bu.1 q with q|q
  .exact h.ok x q
  .simp at q;subst q;exact⟨hp,hl⟩
def od {U V W:Type} (x:Option (U×V×W)):(e9 x λa b c=>some (a,b,c))=x:=by cases x with
 |none=>rfl
 |some x=>rfl
def Tg (C:FSt) (ρ:b9->Nat) (mp:List (b9×List Int)):Prop:=∀s q,getM mp s=some q->xY C q=some (ρ s)
structure Sem (T F:Nat) (sb:Int->Int->Prop) (P:FSt->(b9->Nat)->Prop) (A:List Node) (mp:List (b9×List Int)) (B:List Node) (CR:List (b9×List Int)):Prop where
 iff:∀C ρ,Can T F C->((Le sb ⟨A⟩ C/\Tg C ρ mp/\P C ρ)↔(Le sb ⟨B⟩ C/\Tg C ρ CR))
 ex:(∃ρ,Tg ⟨A⟩ ρ mp)->∃ρ,Tg ⟨B⟩ ρ CR
def IE (T F:Nat) (sb:Int->Int->Prop) (P:FSt->(b9->Nat)->Prop) (A:List Node) (mp:List (b9×List Int)):Prop:=∀C ρ,Can T F C->Le sb ⟨A⟩ C->Tg C ρ mp->P C ρ->False
section
variable {T F:Nat} {sb:Int->Int->Prop} {P Q:FSt->(b9->Nat)->Prop} {A B D:List Node} {mp CR X3:List (b9×List Int)}
def Sem.comp (h:Sem T F sb P A mp B CR) (k:Sem T F sb Q B CR D X3):Sem T F sb (λC ρ=>P C ρ/\Q C ρ) A mp D X3:=
 ⟨λC ρ q=>⟨λ⟨a,b,c,d⟩=>(k.iff C ρ q).1 ⟨((h.iff C ρ q).1 ⟨a,b,c⟩).1,((h.iff C ρ q).1 ⟨a,b,c⟩).2,d⟩,λx=>have y:=(k.iff C ρ q).2 x
  have z:=(h.iff C ρ q).2 ⟨y.1,y.2.1⟩
  ⟨z.1,z.2.1,z.2.2,y.2.2⟩⟩,λw=>k.ex (h.ex w)⟩
def Sem.cg (h:Sem T F sb P A mp B CR) (e:∀C ρ,P C ρ↔Q C ρ):Sem T F sb Q A mp B CR:=⟨λC ρ q=>by rw[<-e];exact h.iff C ρ q,h.ex⟩
def Sem.nil:Sem T F sb (λ_ _=>True) A mp A mp:=⟨λC ρ _=>⟨λ⟨a,b,_⟩=>⟨a,b⟩,λ⟨a,b⟩=>⟨a,b,trivial⟩⟩,λh=>h⟩
def IE.imp (h:IE T F sb P A mp) (e:∀C ρ,Q C ρ->P C ρ):IE T F sb Q A mp:=λC ρ a b c d=>h C ρ a b c (e C ρ d)
def IE.after (h:Sem T F sb P A mp B CR) (k:IE T F sb Q B CR):IE T F sb (λC ρ=>P C ρ/\Q C ρ) A mp:=λC ρ a b c ⟨d,e⟩=>
 have x:=(h.iff C ρ a).1 ⟨b,c,d⟩
 k C ρ a x.1 x.2 e
def Tg.up {f g:FSt} (w:Can T F f) (z:Can T F g) (h:Le sb f g) {ρ:b9->Nat} (ht:Tg f ρ mp):∃ρ,Tg g ρ mp:=by obtain⟨m,h⟩:=h;exact⟨λs=>m (ρ s),λs q G=>AA w z h (ht s q G)⟩
abbrev Mc (sb:Int->Int->Prop) (p:List Int) (g:FSt) (C:FSt):Prop:=Le sb (Ap p g) C
abbrev EqS (p q:List Int) (C:FSt):Prop:=∃k,xY C p=some k/\xY C q=some k
def Yp (hT:TO T sb) {f:FSt} (z:Can T F f) {p:List Int} {g k':FSt} (h:Ui T F sb f (Ap p g) k'):Sem T F sb (λC _=>Mc sb p g C) f.aA mp k'.aA mp:=
 ⟨λC ρ w=>⟨λ⟨a,b,c⟩=>⟨h.least C w a c,b⟩,λ⟨a,b⟩=>⟨Le.trans hT h.l a,b,Le.trans hT h.r a⟩⟩,λ⟨ρ,q⟩=>Tg.up z h.can h.l q⟩
end
section
variable {h:aN} {T F:Nat} {sb:Int->Int->Prop} {bS:Int->Int} {val:Int->Int->Int} (H:HX h T F sb bS val) (hT:T<=1000) (hF:F<=300)
theorem o518 (A:List Node) (p:List Int) (g:FSt) (tg:List tag):f518 h A false p g tg=some (A,false,tg):=e518 (by rw[az])
theorem adM (A:List Node) (p q:List Int) (tg:List tag):f522 h A false p q tg=some (A,false,tg):=e522 (by rw[az])
include H hT in
theorem s517 {A:List Node} {b:Bool} {p:List Int} {s:b9} {tg:List tag} {r:List Node×Bool×List tag} (q:f518 h A b p ⟨[⟨mQ h s,[]⟩]⟩ tg=some r):f517 h A b p s tg=some r:=by have w:=H.tl;refine e517 ?_;rw[c364 _ _ af,aj,c414,aj];show x7 G2 [⟨_,[]⟩] ([[]].map some) _=_;rw[qd rfl];show e9 (f518 h A b p ⟨[⟨_,[]⟩]⟩ tg) _=_;rw[od];exact q
include H hT in
theorem Tl (A:List Node) (p:List Int) (s:b9) (tg:List tag):f517 h A false p s tg=some (A,false,tg):=s517 H hT (o518 A p _ tg)
include H hF
theorem s_put {A:List Node} (z:Can T F ⟨A⟩) {g:FSt} (G:Can T F g) {p:List Int} (hp:jJ F p) (N:A.length+(p.length+g.aA.length)<=1000000) (t:List Template) (tg:List tag):
  (∃B,f518 h A true p g tg=some (B,true,tg)/\(∀mp,MZ p g h.Types h.bJ t A mp=some (true,B,mp))/\Can T F ⟨B⟩/\B.length<=A.length+(p.length+g.aA.length)/\Ui T F sb ⟨A⟩ (Ap p g) ⟨B⟩)\/
  (∃B,f518 h A true p g tg=some (B,false,tg)/\(∀mp,MZ p g h.Types h.bJ t A mp=some (false,A,mp))/\∀C,Can T F C->Le sb ⟨A⟩ C->Mc sb p g C->False):=by
 have q:0<T:=by have:=z.go.tp 0 z.ne;omega
 have O:=YM q af hp G (to_ok G af af);rcases at_same H.hv.hm z G q hF hp N with⟨f,I,K,w⟩|⟨I,K,w⟩
 .refine .inl ⟨f.aA,e518 ?_,λmp=>e531a ?_,w.can,?_,w⟩
  .rw[ak,K,aj]
  .rw[show aN.mk h.Types h.bJ=h from rfl,I,aj,ak]
  .have:=Ui.size H.hv z O w;rw[F5] at this;exact this
 .refine .inr ⟨[],e518 ?_,λmp=>e531a ?_,w⟩
  .rw[ak,K,aj]
  .rw[show aN.mk h.Types h.bJ=h from rfl,I,aj,az]
theorem IX {t:Int} (ht:0<=t/\t<(T:Int)):Can T F ⟨[⟨t,[]⟩]⟩:=vh (T:=T) (F:=F) (π:=[]) (t:=t) af ai ht
theorem ad1 {A:List Node} (G:Can T F ⟨A⟩) {ty:Int} (ht:0<=ty/\ty<(T:Int)) {p:List Int} (hp:jJ F p) (I:A.length+(p.length+1)<=1000000) (t:List Template) (tg:List tag):
  (∃B,f518 h A true p ⟨[⟨ty,[]⟩]⟩ tg=some (B,true,tg)/\(∀mp,vO p ty h.Types h.bJ t A mp=some (true,B,mp))/\Can T F ⟨B⟩/\B.length<=A.length+(p.length+1)/\Ui T F sb ⟨A⟩ (Ap p ⟨[⟨ty,[]⟩]⟩) ⟨B⟩)\/
  (∃B,f518 h A true p ⟨[⟨ty,[]⟩]⟩ tg=some (B,false,tg)/\(∀mp,vO p ty h.Types h.bJ t A mp=some (false,A,mp))/\∀C,Can T F C->Le sb ⟨A⟩ C->Mc sb p ⟨[⟨ty,[]⟩]⟩ C->False):=by
 rcases s_put H hF G (IX H hF ht) hp I t tg with⟨B,q,w,z,K⟩|⟨B,q,w,z⟩
 .exact .inl ⟨B,q,λmp=>e530a (by rw[w,bI]),z,K⟩
 .exact .inr ⟨B,q,λmp=>e530a (by rw[w,bI]),z⟩
include hT in
theorem ad3 {A:List Node} (G:Can T F ⟨A⟩) {s:b9} (ht:0<=mQ h s) {p:List Int} (hp:jJ F p) (I:A.length+(p.length+1)<=1000000) (t:List Template) (tg:List tag) (mp:List (b9×List Int)):
  (∃B,f517 h A true p s tg=some (B,true,tg)/\vO p (mQ h s) h.Types h.bJ t A mp=some (true,B,mp)/\Can T F ⟨B⟩/\B.length<=A.length+(p.length+1)/\Sem T F sb (λC _=>Mc sb p ⟨[⟨mQ h s,[]⟩]⟩ C) A mp B mp)\/
  (∃B,f517 h A true p s tg=some (B,false,tg)/\vO p (mQ h s) h.Types h.bJ t A mp=some (false,A,mp)/\IE T F sb (λC _=>Mc sb p ⟨[⟨mQ h s,[]⟩]⟩ C) A mp):=by
 have K:=H.tl
 have:mQ h s<(h.Types.length:Int):=(Pw _ _).1
 rcases ad1 H hF G (ty:=mQ h s) ⟨ht,af⟩ hp I t tg with⟨B,q,w,z,N,O⟩|⟨B,q,w,z⟩
 .exact .inl ⟨B,s517 H hT q,w mp,z,N,Yp H.hv.hm.to G O⟩
 .exact .inr ⟨B,s517 H hT q,w mp,λC ρ a b _ d=>z C a b d⟩
theorem s_eq {A:List Node} (z:Can T F ⟨A⟩) {p q:List Int} (hp:jJ F p) (V:jJ F q) (K:p.length<=1000) (N:q.length<=1000) (U:A.length<=900000) (t:List Template) (tg:List tag) (mp:List (b9×List Int)):
  (∃B,f522 h A true p q tg=some (B,true,tg)/\J7 p q h.Types h.bJ t A mp=some (true,B,mp)/\Can T F ⟨B⟩/\B.length<=A.length+(p.length+1)+(q.length+1)/\Sem T F sb (λC _=>EqS p q C) A mp B mp)\/
  (∃B,f522 h A true p q tg=some (B,false,tg)/\J7 p q h.Types h.bJ t A mp=some (false,A,mp)/\IE T F sb (λC _=>EqS p q C) A mp):=by
 have I:0<T:=by have:=z.go.tp 0 z.ne;omega
 rcases abr H.hv.hm z hp V K N I hF U with⟨f,O,R,w,j4⟩|⟨O,R,w⟩
 .refine .inl ⟨f.aA,e522 ?_,e532a ?_,w.can,j4,λC ρ G=>⟨λ⟨a,b,c⟩=>⟨w.least C G a c,b⟩,λ⟨a,b⟩=>⟨Le.trans H.hv.hm.to w.l a,b,?_⟩⟩,λ⟨ρ,S⟩=>Tg.up z w.can w.l S⟩
  .rw[ak,R,aj]
  .rw[show aN.mk h.Types h.bJ=h from rfl,O,aj,ak]
  .obtain⟨m,a⟩:=a;obtain⟨k,k1,k2⟩:=w.at_;exact⟨m k,AA w.can G a k1,AA w.can G a k2⟩
 .refine .inr ⟨[],e522 ?_,e532a ?_,λC ρ a b _ d=>w C a b d⟩
  .rw[ak,R,aj]
  .rw[show aN.mk h.Types h.bJ=h from rfl,O,aj,az]
omit H hF in
theorem h519 {p:List Int} {s:b9} {A:List Node} {ok:Bool} {o:state} {tg:List tag} (hl:tg.length<=100000) {r:List Node×Bool×List tag}:∀(xs:List tag) (i:Nat),tg.drop i=xs->
  (match xs.find? λx=>x.Name==s with
   |some x=>f522 h A ok x.Path p tg
   |none=>f518 h A ok p ⟨[⟨0,[]⟩]⟩ (tg++[⟨s,p⟩]))=some r->QF p s i h A ok o tg=some r:=by
 intro xs;induction xs with
 |nil=>intro i q w;refine ac7 ?_;rw[bq q,az,cC _ af ai af,c414,aj];show x7 G2 [⟨_,[]⟩] ([[]].map some) _=_;rw[qd rfl];show e9 (f518 h A ok p ⟨[⟨0,[]⟩]⟩ _) _=_;rw[od];exact w
 |cons x xs ih=>intro i q w;refine ac7 ?_;rw[aV q,ak,mh q,me q];cases e:x.Name==s with
  |true=>rw[lZ,e] at w;rw[ak,mh q,me q,od];exact w
  |false=>rw[lZ,e] at w;rw[az,aR q af];exact ih (i+1) (aI q) w
omit H hF in
theorem o519 {A:List Node} {p:List Int} {s:b9} {tg:List tag} (hl:tg.length<=100000):∃q,f519 h A false p s tg=some (A,false,q)/\q.length<=tg.length+1:=by
 have key:=λr=>h519 (h:=h) (p:=p) (s:=s) (A:=A) (ok:=false) (o:=⟨⟨[]⟩,false,[]⟩) hl (r:=r) tg 0 rfl
 cases e:tg.find? λx=>x.Name==s with
 |some x=>exact⟨tg,e519 (key _ (by rw[e];exact adM A _ p tg)),af⟩
 |none=>exact⟨tg++[⟨s,p⟩],e519 (key _ (by rw[e];exact o518 A p _ _)),ai⟩
noncomputable abbrev Wj (h:aN) (t:List Template) (s:b9) (p:List Int) (A:List Node) (mp:List (b9×List Int)):Option (Bool×List Node×List (b9×List Int)):=
 w6 mp s (λy=>e9 (J7 y p h.Types h.bJ t A mp) λa b c=>some (a,b,c)) (AR (yC mp s p) λm=>e9 (vO p 0 h.Types h.bJ t A m) λa b c=>some (a,b,c))
omit H hF in
theorem T9:∀(k:Nat) (p:List Int) (t:Int),D5 k p++[⟨t,[]⟩]=wI k p t
 |_,[],_=>rfl
 |k,f::p,t=>by rw[wI,<-T9 (k+1) p t];rfl
omit H hF in
theorem und_chn (p:List Int) (t:Int):Ap p ⟨[⟨t,[]⟩]⟩=sM p t:=aP FSt.mk (T9 0 p t)
theorem s_tag {A:List Node} (V:Can T F ⟨A⟩) {s:b9} {p:List Int} (hp:jJ F p) (Ul:p.length<=200) (hn:A.length<=900000) (t:List Template) {tg:List tag} {mp:List (b9×List Int)} (hr:Ea F tg mp) (hl:tg.length<=10000):
  (∃B w CR,f519 h A true p s tg=some (B,true,w)/\Wj h t s p A mp=some (true,B,CR)/\Can T F ⟨B⟩/\B.length<=A.length+402/\Ea F w CR/\w.length<=tg.length+1/\Sem T F sb (λC ρ=>xY C p=some (ρ s)) A mp B CR)\/
  (∃B w CR,f519 h A true p s tg=some (B,false,w)/\Wj h t s p A mp=some (false,A,CR)/\w.length<=tg.length+1/\IE T F sb (λC ρ=>xY C p=some (ρ s)) A mp):=by
 have key:=λr=>h519 (h:=h) (p:=p) (s:=s) (A:=A) (ok:=true) (o:=⟨⟨[]⟩,false,[]⟩) af (r:=r) tg 0 rfl
 have vk:0<T:=by have:=V.go.tp 0 V.ne;omega
 have G:=hr.get s;cases e:tg.find? λx=>x.Name==s with
 |some x=>
  rw[e] at G;obtain⟨o1,o2⟩:=hr.ok x (nR e);rcases s_eq H hF V o1 hp af af hn t tg mp with⟨B,R,S,K,j4,N⟩|⟨B,R,S,K⟩
  .refine .inl ⟨B,tg,mp,e519 (key _ (by rw[e];exact R)),by unfold Wj;rw[zR G,od,S],K,by omega,hr,by omega,λC ρ I=>⟨λ⟨a,b,c⟩=>(N.iff C ρ I).1 ⟨a,b,ρ s,b s _ G,c⟩,λx=> ?_⟩,N.ex⟩;obtain⟨a,b,k,k1,k2⟩:=(N.iff C ρ I).2 x;rw[b s _ G] at k1;cases k1;exact⟨a,b,k2⟩
  .exact .inr ⟨B,tg,mp,e519 (key _ (by rw[e];exact R)),by unfold Wj;rw[zR G,od,S],by omega,λC ρ a b c d=>K C ρ a b c ⟨ρ s,c s _ G,d⟩⟩
 |none=>
  rw[e] at G;have O:∀C,Can T F C->(Mc sb p ⟨[⟨0,[]⟩]⟩ C↔∃k,xY C p=some k):=λC I=>by show Le sb (Ap p _) C↔_;rw[und_chn,Oq H.hv.hm.to hp ⟨jQ 0,af⟩ I];refine⟨λ⟨k,a,_⟩=>⟨k,a⟩,λ⟨k,a⟩=>⟨k,a,?_⟩⟩;have:=I.go.tp _ (I.Uo (IF (λi _=>I.Ay i) _ 0 _ .root a));exact H.hv.hm.to.top this.1 this.2
  have htg:∀C ρ,Tg C ρ (yC mp s p)↔Tg C ρ mp/\xY C p=some (ρ s):=λC ρ=>by
   refine⟨λx=>⟨λu q z=>x u q ?_,x s p (by rw[yg,aB rfl])⟩,λ⟨x,y⟩ u q z=> ?_⟩
   .rw[yg,au (λU=>by subst U;rw[G] at z;cases z)];exact z
   .rw[yg] at z;split at z
    .rename_i U;cases z;rw[U];exact y
    .exact x u q z
  rcases ad1 H hF V (ty:=0) ⟨af,af⟩ hp af t (tg++[⟨s,p⟩]) with⟨B,R,S,K,j4,N⟩|⟨B,R,S,K⟩
  .refine .inl ⟨B,_,_,e519 (key _ (by rw[e];exact R)),by unfold Wj;rw[zQ G,Cz,od,S],K,by omega,hr.snoc e hp Ul,by simp,λC ρ I=> ?_,λ⟨ρ,h0⟩=> ?_⟩
   .rw[htg];exact⟨λ⟨a,b,c⟩=>⟨N.least C I a ((O C I).2 ⟨_,c⟩),b,c⟩,λ⟨a,b,c⟩=>⟨Le.trans H.hv.hm.to N.l a,b,c⟩⟩
   .obtain⟨k,hk⟩:=(O _ K).1 N.r;obtain⟨ρ',h1⟩:=Tg.up V K N.l h0;refine⟨λu=>if u=s then k else ρ' u,(htg _ _).2 ⟨λu q z=> ?_,by simp only[fW];exact hk⟩⟩;simp only[];rw[au (λU=>by subst U;rw[G] at z;cases z)];exact h1 u q z
  .exact .inr ⟨B,_,_,e519 (key _ (by rw[e];exact R)),by unfold Wj;rw[zQ G,Cz,od,S],by simp,λC ρ a b c d=>K C a b ((O C a).2 ⟨_,d⟩)⟩
end
end Go.Proofs.YtbnlhmaaccgbjaaGreatDoor.cl.pf
namespace Go.Proofs.YtbnlhmaaccgbjaaGreatDoor.cl.pf
open Go Go.AM
def Rx {U V W X:Type} (x:Option (U×V×W×X)):(mN x λa b c d=>some (a,b,c,d))=x:=by cases x with
 |none=>rfl
 |some x=>rfl
def qL {U V W X:Type} {x:Option (U×V×W)} {t:X} {a:U} {b:V} {c:W} (h:x=some (a,b,c)):(e9 x λa b c=>some (a,b,t,c))=some (a,b,t,c):=by rw[h];rfl
def YX (T F:Nat) (t:List Template):Prop:=∀x∈t,Can T F x.jH/\x.jH.aA.length<=4096
abbrev gb (h:aN) (p:List Int) (i:Nat):List Int:=p++List.replicate i (gP h tY)
abbrev qt (h:aN) (p:List Int):List Int:=p++[gP h Fx]
section
variable (h:aN) (t:List Template) (sb:Int->Int->Prop) (C:FSt) (ρ:b9->Nat)
def Uu (s:b9) (p:List Int):Prop:=Mc sb p ⟨[⟨mQ h s,[]⟩]⟩ C
mutual
def Sat:aQ->List Int->Prop
 | .mk op nm ph ks,p=>
  if op=1 then Uu h sb C nm p
  else if op=2 then∃(i:Nat) (x:Template),tpos t nm=(i:Int)/\t[i]? =some x/\Mc sb p x.jH C
  else if op=3 then xY C p=some (ρ nm)
  else if op=4 then yT ks p
  else if op=5 then yT ks (p++ph.map (gP h))
  else if op=6 then Jq ks p/\Uu h sb C yH (gb h p ks.length)
  else if op=7 then YV ks p
  else Uu h sb C uy p/\Jq ks (qt h p)/\Uu h sb C yG (gb h (qt h p) ks.length)/\EqS (gb h (qt h p) ks.length) (p++[gP h tX]) C
def yT:List aQ->List Int->Prop
 |[],_=>True
 |x::l,p=>Sat x p/\yT l p
def Jq:List aQ->List Int->Prop
 |[],_=>True
 |x::l,p=>Uu h sb C AL p/\Sat x (p++[gP h pK])/\Jq l (p++[gP h tY])
def YV:List aQ->List Int->Prop
 |[],_=>True
 |x::l,p=>(l=[]/\Sat x p)\/(l≠[]/\Uu h sb C AL p/\Sat x (p++[gP h pK])/\YV l (p++[gP h tY]))
end
variable {h t sb C ρ}
theorem qv {d:aQ} {p:List Int}:Sat h t sb C ρ d p=(if d.Op=1 then Uu h sb C d.Name p
  else if d.Op=2 then∃(i:Nat) (x:Template),tpos t d.Name=(i:Int)/\t[i]? =some x/\Mc sb p x.jH C
  else if d.Op=3 then xY C p=some (ρ d.Name)
  else if d.Op=4 then yT h t sb C ρ d.Kids p
  else if d.Op=5 then yT h t sb C ρ d.Kids (p++d.Path.map (gP h))
  else if d.Op=6 then Jq h t sb C ρ d.Kids p/\Uu h sb C yH (gb h p d.Kids.length)
  else if d.Op=7 then YV h t sb C ρ d.Kids p
  else Uu h sb C uy p/\Jq h t sb C ρ d.Kids (qt h p)/\Uu h sb C yG (gb h (qt h p) d.Kids.length)/\EqS (gb h (qt h p) d.Kids.length) (p++[gP h tX]) C):=by
 cases d;rw[Sat];rfl
theorem Lc {p:List Int} {i:Nat}:gb h p (i+1)=gb h p i++[gP h tY]:=by rw[gb,gb,uY,eo]
theorem Wt {p:List Int} {i:Nat}:gb h p (i+1)=gb h (p++[gP h tY]) i:=by rw[gb,gb,q7,eo];rfl
theorem Tm {x:aQ}:∀{l:List aQ} {p:List Int},YV h t sb C ρ (l++[x]) p↔Jq h t sb C ρ l p/\Sat h t sb C ρ x (gb h p l.length)
 |[],p=>by rw[dK,YV,Jq];simp[YV,gb]
 |y::l,p=>by rw[gi,YV,Jq,Tm (l:=l),bp,Wt];simp[rO]
end
def Sim (T F:Nat) (sb:Int->Int->Prop) (t u:List Template) (P:FSt->(b9->Nat)->Prop) (A:List Node) (mp:List (b9×List Int)) (n k:Nat) (w:Option (List Node×Bool×List Template×List tag)) (q:Option (Bool×List Node×List (b9×List Int))):Prop:=
 (∃B tg CR,w=some (B,true,t,tg)/\(G4 t u->q=some (true,B,CR))/\Can T F ⟨B⟩/\B.length+400<=n/\Ea F tg CR/\tg.length<=k/\Sem T F sb P A mp B CR)\/
 (∃B tg D CR,w=some (B,false,t,tg)/\(G4 t u->q=some (false,D,CR))/\tg.length<=k/\IE T F sb P A mp)
def Off (t:List Template) (k:Nat) (A:List Node) (q:Option (List Node×Bool×List Template×List tag)):Prop:=
 ∃tg,q=some (A,false,t,tg)/\tg.length<=k
def Jp (h:aN) (T F:Nat) (sb:Int->Int->Prop) (t u:List Template) (d:aQ):Prop:=∀p,jJ F p->p.length+14 *oN d<=200->
 (∀A tg mp,Can T F ⟨A⟩->A.length+5000 *oN d<=139400->tg.length+oN d<=1000->Ea F tg mp->
  Sim T F sb t u (λC ρ=>Sat h t sb C ρ d p) A mp (A.length+5000 *oN d) (tg.length+oN d) (oZ h A true p d t tg) (rj d p h.Types h.bJ u A mp))/\
 ∀A tg,tg.length+oN d<=1000->Off t (tg.length+oN d) A (oZ h A false p d t tg)
def JY (d:aQ):1<=oN d:=by rw[zH];omega
def Gh {x:aQ}:∀{l:List aQ},x∈l->oN x<=eU l
 |y::l,h=>by
  rw[eU];rcases aJ.1 h with rfl|h
  .omega
  .have:=Gh h;omega
section
variable {h:aN} {T F:Nat} {sb:Int->Int->Prop} {bS:Int->Int} {val:Int->Int->Int} (H:HX h T F sb bS val) (hT:T<=1000) (hF:F<=300) {t u:List Template} (ht:t.length<=1000) (hs:YX T F t)
section
variable {p:List Int} (hp:jJ F p) {d:aQ} (hl:d.Kids.length<=256) (ih:∀k∈d.Kids,Jp h T F sb t u k)
include hp hl ih
theorem o_and {o:state}:∀(xs:List aQ) (i:Nat) (A:List Node) (tg:List tag),d.Kids.drop i=xs->(∀x∈xs,p.length+14 *oN x<=200)->tg.length+eU xs<=1000->
  Off t (tg.length+eU xs) A (wE p d.Kids.length i h A false d o t tg):=by
 intro xs;induction xs with
 |nil=>intro i A tg q _ _;exact⟨tg,yl (by rw[bq q,az]),af⟩
 |cons x xs I=>
  intro i A tg q w G;simp only[eU] at G⊢;have O:=w x ai;have z:∀y∈xs,p.length+14 *oN y<=200:=λy S=>w y (by simp[S])
  obtain⟨K,R,V⟩:=(ih x (aZ (bZ q)) p hp af).2 A tg af;obtain⟨N,U,j3⟩:=I (i+1) A K (aI q) z af;exact⟨N,yl (by rw[aV q,ak,aM q,R,cK,aR q af];exact U),af⟩
theorem s_and {o:state}:∀(xs:List aQ) (i:Nat) (A:List Node) (tg:List tag) (mp:List (b9×List Int)),d.Kids.drop i=xs->(∀x∈xs,p.length+14 *oN x<=200)->Can T F ⟨A⟩->A.length+5000 *eU xs<=139400->tg.length+eU xs<=1000->Ea F tg mp->
  (∃B z CR,wE p d.Kids.length i h A true d o t tg=some (B,true,t,z)/\(G4 t u->CL d.Kids d.Kids.length i p h.Types h.bJ u A mp=some (-1,B,CR))/\Can T F ⟨B⟩/\B.length<=A.length+5000 *eU xs/\Ea F z CR/\z.length<=tg.length+eU xs/\Sem T F sb (λC ρ=>yT h t sb C ρ xs p) A mp B CR)\/
  (∃B z C CR v,wE p d.Kids.length i h A true d o t tg=some (B,false,t,z)/\(G4 t u->CL d.Kids d.Kids.length i p h.Types h.bJ u A mp=some (v,C,CR))/\0<=v/\z.length<=tg.length+eU xs/\IE T F sb (λC ρ=>yT h t sb C ρ xs p) A mp):=by
 intro xs;induction xs with
 |nil=>intro i A tg mp w _ hA _ _ hr;exact .inl ⟨A,tg,mp,yl (by rw[bq w,az]),λ_=>IQ (by rw[bq w,az]),hA,by omega,hr,by omega,Sem.nil.cg λC ρ=>by rw[yT]⟩
 |cons x xs ihx=>
  intro i A tg mp w R hA hAx htx hr;simp only[eU] at hAx htx⊢;have hpx1:=R x ai;have N:∀y∈xs,p.length+14 *oN y<=200:=λy hy=>R y (by simp[hy])
  have hx1:=JY x;have ec:∀C ρ,(Sat h t sb C ρ x p/\yT h t sb C ρ xs p)↔yT h t sb C ρ (x::xs) p:=λC ρ=>by rw[yT]
  rcases(ih x (aZ (bZ w)) p hp af).1 A tg mp hA af af hr with⟨B,O,K,U,g3,gc,gl,gr,gt,V⟩|⟨B,O,C,K,U,g3,gt,V⟩
  .have q:G4 t u->abv x p h.Types h.bJ u A mp=some (false,B,K):=λI=>e557a (by rw[g3 I,bI];rfl)
   rcases ihx (i+1) B O K (aI w) N gc af af gr with⟨D,G,X3,S,j3,jc,jl,jr,jt,js⟩|⟨D,G,C,X3,v,S,j3,jv,jt,js⟩
   .refine .inl ⟨D,G,X3,yl ?_,λI=>IQ ?_,jc,by omega,jr,by omega,(V.comp js).cg ec⟩
    .rw[aV w,ak,aM w,U,cK,aR w af];exact S
    .rw[aV w,ak,aM w,q I,bI,az,aR w af];exact j3 I
   .refine .inr ⟨D,G,C,X3,v,yl ?_,λI=>IQ ?_,jv,by omega,(IE.after V js).imp λC ρ=>(ec C ρ).2⟩
    .rw[aV w,ak,aM w,U,cK,aR w af];exact S
    .rw[aV w,ak,aM w,q I,bI,az,aR w af];exact j3 I
  .obtain⟨G,S,jt⟩:=o_and hp hl ih (o:=o) xs (i+1) B O (aI w) N af;refine .inr ⟨B,G,C,K,i,yl ?_,λI=>IQ ?_,by omega,by omega,V.imp λC ρ a=>((ec C ρ).2 a).1⟩
   .rw[aV w,ak,aM w,U,cK,aR w af];exact S
   .rw[aV w,ak,aM w,e557a (by rw[g3 I,bI]),bI];rfl
end
section
include H hF
theorem h508p {d:aQ} (hl:d.Path.length<=64) {A:List Node} {ok:Bool} {o:state} {tg:List tag}:∀(xs:List b9) (i:Nat) (p:List Int),d.Path.drop i=xs->p.length<=1000+i->
  ∀r,(bA d.Kids 0 λx=>oZ h A ok (p++xs.map (gP h)) x t tg)=some r->FT i h A ok d o p t tg=some r:=by
 have z:=H.hv.fl;intro xs;induction xs with
 |nil=>intro i p q _ r w;simp only[di,dP] at w;refine SO ?_;rw[bq q,az];simp only[Rx];exact w
 |cons x xs ih=>intro i p q hp r w;have G:=eF q;rw[bw,List.append_cons] at w;refine SO ?_;rw[aV q,ak,aM q,zF _ _ af,aj,cC _ af ai af,aR q af];exact ih (i+1) (p++[gP h x]) (aI q) aH r w
theorem Cv {s:b9} (q:0<=gP h s):0<=gP h s/\gP h s<(F:Int):=by
 have:gP h s<(h.bJ.length:Int):=(Pw _ _).1
 have:=H.hv.fl;exact⟨q,af⟩
end
section
include H hT hF
variable (L:LT h) {p:List Int} (hp:jJ F p) {l:List aQ} (hl:l.length<=12) (ih:∀k∈l,Jp h T F sb t u k)
include L hp in
theorem BW (i:Nat):jJ F (gb h p i):=hp.app (jJ.rep (Cv H hF L.re))
include L hp hl ih
theorem Ny {o:state}:∀(xs:List aQ) (i:Nat) (A:List Node) (tg:List tag),l.drop i=xs->p.length+13+14 *eU xs<=200->tg.length+eU xs<=1000->
  Off t (tg.length+eU xs) A (vt p l i h A false o t tg):=by
 have R:=H.hv.fl;intro xs;induction xs with
 |nil=>intro i A tg q _ _;exact⟨tg,zP (by rw[bq q,az]),af⟩
 |cons x xs G=>intro i A tg q w z;have V:=eF q;simp only[eU] at w z⊢;have N:f521 p (gP h tY) (i:Int)=some (gb h p i):=Oe af;have c2:f521 (gb h p i) (gP h pK) 1=some (gb h p i++[gP h pK]):=Oe (n:=1) aH;obtain⟨I,O,U⟩:=(ih x (aZ (bZ q)) (gb h p i++[gP h pK]) ((BW H hT hF L hp i).app (jJ.rep (n:=1) (Cv H hF L.fi))) aH).2 A tg af;obtain⟨K,S,j3⟩:=G (i+1) A I (aI q) af af;refine⟨K,zP ?_,af⟩;rw[aV q,ak,zF _ _ af,aj,N,aj,Tl H hT,bI,zF _ _ af,aj,c2,aj,aM q,O,cK,aR q af];exact S
theorem ad2 {o:state}:∀(xs:List aQ) (i:Nat) (A:List Node) (tg:List tag) (mp:List (b9×List Int)),l.drop i=xs->p.length+13+14 *eU xs<=200->Can T F ⟨A⟩->A.length+5000 *eU xs<=139100->tg.length+eU xs<=1000->Ea F tg mp->
  (∃B z CR,vt p l i h A true o t tg=some (B,true,t,z)/\(G4 t u->CK (gb h p i) l l.length i h.Types h.bJ u A mp=some ((gb h p (i+xs.length),true),B,CR))/\Can T F ⟨B⟩/\B.length<=A.length+5000 *eU xs/\Ea F z CR/\z.length<=tg.length+eU xs/\Sem T F sb (λC ρ=>Jq h t sb C ρ xs (gb h p i)) A mp B CR)\/
  (∃B z C CR,vt p l i h A true o t tg=some (B,false,t,z)/\(G4 t u->CK (gb h p i) l l.length i h.Types h.bJ u A mp=some (([],false),C,CR))/\z.length<=tg.length+eU xs/\IE T F sb (λC ρ=>Jq h t sb C ρ xs (gb h p i)) A mp):=by
 have hfl:=H.hv.fl;have Vq:=H.tl;intro xs;induction xs with
 |nil=>intro i A tg mp q _ hA _ _ hr;exact .inl ⟨A,tg,mp,zP (by rw[bq q,az]),λ_=>E3 (by rw[bq q,az];rfl),hA,by omega,hr,by omega,Sem.nil.cg λC ρ=>by rw[Jq]⟩
 |cons x xs ihx=>
  intro i A tg mp q hpx hA hAx htx hr;have hi:=eF q;simp only[eU] at hpx hAx htx⊢;have hx1:=JY x;have hq:=BW H hT hF L hp i;have hql:(gb h p i).length=p.length+i:=ai;have S:=ih x (aZ (bZ q)) (gb h p i++[gP h pK]) (hq.app (jJ.rep (n:=1) (Cv H hF L.fi))) aH;have c0:f352 (aN.mk h.Types h.bJ) AL=some (mQ h AL):=c352 _ h af;have c1:f521 p (gP h tY) (i:Int)=some (gb h p i):=Oe af;have c2:f521 (gb h p i) (gP h pK) 1=some (gb h p i++[gP h pK]):=Oe (n:=1) af;have m1:∀A mp,By (gb h p i) [pK] h.Types h.bJ u A mp=some (gb h p i++[gP h pK],A,mp):=λA mp=>aa0 af ai af
  have m2:∀A mp,By (gb h p i) [tY] h.Types h.bJ u A mp=some (gb h p (i+1),A,mp):=λA mp=>by rw[aa0 af ai af,Lc];rfl
  have el:i+1+xs.length=i+(x::xs).length:=aH;have R:∀C ρ,(Uu h sb C AL (gb h p i)/\Sat h t sb C ρ x (gb h p i++[gP h pK])/\Jq h t sb C ρ xs (gb h p (i+1)))↔Jq h t sb C ρ (x::xs) (gb h p i):=λC ρ=>by rw[Jq,Lc]
  rcases ad3 H hT hF hA L.co hq af u tg mp with⟨B,U,V,j3,j4,j5⟩|⟨B,U,V,j5⟩
  .rcases S.1 B tg mp j3 af af hr with⟨C,G,N,O,g3,gc,gl,gr,gt,gs⟩|⟨C,G,D,N,O,g3,gt,gs⟩
   .rcases ihx (i+1) C G N (aI q) af gc af af gr with⟨D,w,X3,K,k3,kc,kl,kr,kt,ks⟩|⟨D,w,E,X3,K,k3,kt,ks⟩
    .refine .inl ⟨D,w,X3,zP ?_,λI=>E3 ?_,kc,by omega,kr,by omega,(j5.comp (gs.comp ks)).cg R⟩
     .rw[aV q,ak,zF _ _ af,aj,c1,aj,U,bI,zF _ _ af,aj,c2,aj,aM q,O,cK,aR q af];exact K
     .rw[aV q,ak,aM q,c0,aj,V,bI,cond_neg (by rfl),m1,bI,g3 I,bI,cond_neg (by rfl),m2,bI,aR q af,<-el];exact k3 I
    .refine .inr ⟨D,w,E,X3,zP ?_,λI=>E3 ?_,by omega,(IE.after j5 (IE.after gs ks)).imp λC ρ=>(R C ρ).2⟩
     .rw[aV q,ak,zF _ _ af,aj,c1,aj,U,bI,zF _ _ af,aj,c2,aj,aM q,O,cK,aR q af];exact K
     .rw[aV q,ak,aM q,c0,aj,V,bI,cond_neg (by rfl),m1,bI,g3 I,bI,cond_neg (by rfl),m2,bI,aR q af];exact k3 I
   .obtain⟨w,K,kt⟩:=Ny H hT hF L hp hl ih (o:=o) xs (i+1) C G (aI q) af af;refine .inr ⟨C,w,D,N,zP ?_,λI=>E3 ?_,by omega,(IE.after j5 gs).imp λC ρ a=>⟨((R C ρ).2 a).1,((R C ρ).2 a).2.1⟩⟩
    .rw[aV q,ak,zF _ _ af,aj,c1,aj,U,bI,zF _ _ af,aj,c2,aj,aM q,O,cK,aR q af];exact K
    .rw[aV q,ak,aM q,c0,aj,V,bI,cond_neg (by rfl),m1,bI,g3 I,bI,cond_pos (by rfl)]
  .obtain⟨G,O,gt⟩:=S.2 B tg af;obtain⟨w,K,kt⟩:=Ny H hT hF L hp hl ih (o:=o) xs (i+1) B G (aI q) af af;refine .inr ⟨B,w,A,mp,zP ?_,λI=>E3 ?_,by omega,j5.imp λC ρ a=>((R C ρ).2 a).1⟩
   .rw[aV q,ak,zF _ _ af,aj,c1,aj,U,bI,zF _ _ af,aj,c2,aj,aM q,O,cK,aR q af];exact K
   .rw[aV q,ak,aM q,c0,aj,V,bI,cond_pos (by rfl)]
end
end
