/- THE ABSTRACT MACHINE. -/
import Derived.Test.YthppjmoncapdfaaGreatDoorAmRel
import Derived.Laws.Strings
import Derived.Laws.StructEq
set_option linter.all false
namespace Go.AM
section
variable {P:Program} {μ:Mu} {loc:Nat->Value} {w:World}
def vL {t:TypeId} {v:Value} {x:AV} (h:ofConst P t v=some x):rep μ x v:=by
 unfold ofConst at h;split at h
 .grind[rep]
 .grind[rep]
 .grind[rep]
 .cases l:isSlice P t with
  |none=>simp_all
  |some y=>simp[l] at h;subst h;exact⟨_,0,rfl,aT _,cV _, .inl rfl⟩
 .grind[rep]
 .grind[rep,Value.oneCell',Value.cells]
 .split at h
  .injection h with h;subst h;rw[rep];simp
  grind
 grind
def qI {t:TypeId} {b:Bool} (h:CE P t=some b) (w:World):(isAgg t).run P w= .ok b w:=by
 unfold CE at h;unfold isAgg;split at h
 .simp_all[bI]
 .simp_all[bI]
 .rename_i d q z l;injection h with h;subst h;simp only[fU,bI l,gM];rfl
 grind
def kn {t:TypeId} {n:Nat} (h:kL P t=some n) (w:World):(sizeOf t).run P w= .ok n w:=by unfold kL at h;cases l:P.info? t with
 |none=>simp_all
 |some i=>simp_all[sizeOf,typeInfo]
def gr {t:TypeId} {e:TypeId} {s:Nat} (h:isSlice P t=some (e,s)):P.underlying t=some (.slice e)/\∃i,P.info? e=some i/\i.size=s:=by
 unfold isSlice at h;split at h
 .rename_i l z;cases q:P.info? l with
  |none=>simp_all
  |some i=>simp_all
 grind
theorem add_lit (b l j:Nat):(⟨b,l,none⟩:Addr).add j=⟨b,l+j,none⟩:=by simp_all[Addr.add]
theorem add_zero' (p:Addr):p.add 0=p:=by rfl
def rD {t:TypeId} {ad:Addr} {D:List AV} {z:List Value} {x:AV} (q:iD P t D=some x) (B:j4 μ D z)
  (l:∀j v,z[j]? =some v->w.cell? (ad.add j)=some v):∃v,(loadVar t ad).run P w= .ok v w/\rep μ x v:=by
 unfold iD at q;split at q
 .rename_i n I O;split at q
  .injection q with q;subst q;have K:(z.take n).length=n:=by rw[fF,B.length];omega
   have G:=zh (P:=P) w _ (z.take n) (λj v F=>l j v (by grind));refine⟨.agg (z.take n).toArray,?_,?_⟩
   .simp_all[loadVar,qI,kn]
   .exact⟨_,rfl,(B.take n).1,(B.take n).2⟩
  simp_all
 .obtain⟨v,F,G⟩:=sg B.1 q;have H:=l 0 v F;simp_all[Addr.add,loadVar,qI]
 simp_all
def Jr {t:TypeId} {D:List AV} {B:List Value} {x:AV} (q:Nat) (l:iD P t (D.drop q)=some x) (z:j4 μ D B):
  ∃v,(part t B.toArray q).run P w= .ok v w/\rep μ x v:=by
 unfold iD at l;split at l
 .rename_i n F G;split at l
  .injection l with l;subst l;refine⟨.agg ((B.drop q).take n).toArray,?_,?_⟩
   .simp[part,qI F,kn G]
   .exact⟨_,rfl,((z.drop _).take n).1,((z.drop _).take n).2⟩
  simp_all
 .obtain⟨v,I,H⟩:=sg (z.drop _).1 l;simp_all[part,qI]
 simp_all
def LG {xs:List SV} {l:List Value} (h:iC μ loc xs l) {i:Nat} {x:SV} (q:xs[i]? =some x):∃v,l[i]? =some v/\gG μ loc x v:=by induction xs generalizing l i with
 |nil=>simp at q
 |cons y xs D=>obtain⟨u,F,rfl,z,B⟩:=h;grind
theorem pg {xs:List SV} {l:List Value} (h:iC μ loc xs l):l.length=xs.length:=by induction xs generalizing l with
 |nil=>exact aJ _ h
 |cons x xs z=>obtain⟨u,B,rfl,_,q⟩:=h;simp_all
theorem Cl {xs:List SV} {l:List Value} (h:iC μ loc xs l) (n:Nat):iC μ loc (xs.drop n) (l.drop n):=by induction n generalizing xs l with
 |zero=>assumption
 |succ n z=>cases xs with
  |nil=>simp_all[iC]
  |cons x xs=>obtain⟨u,B,rfl,_,q⟩:=h;simp_all
theorem Cm {xs:List SV} {l:List Value} (h:iC μ loc xs l) (n:Nat):iC μ loc (xs.take n) (l.take n):=by induction n generalizing xs l with
 |zero=>rfl
 |succ n B=>cases xs with
  |nil=>simp_all[iC]
  |cons x xs=>obtain⟨u,D,rfl,q,z⟩:=h;exact⟨u,_,by simp,q,B z⟩
theorem pe {xs z:List SV} {l q:List Value} (h:iC μ loc xs l) (k:iC μ loc z q):iC μ loc (xs++z) (l++q):=by induction xs generalizing l with
 |nil=>have:l=[]:=h;simp_all
 |cons x xs F=>obtain⟨u,G,rfl,B,D⟩:=h;exact⟨u,_,by simp,B,F D⟩
def rC {l:List AV} {q:List Value} (h:b9 μ l q):iC μ loc (l.map .pv) q:=by induction l generalizing q with
 |nil=>assumption
 |cons x xs D=>obtain⟨u,F,rfl,z,B⟩:=h;exact⟨u,F,rfl,z,D B⟩
def PD {xs:List SV} {q:List pV} {B:List Value} (h:vv xs=some q) (k:iC μ loc xs B):j5 μ loc q B:=by induction xs generalizing q B with
 |nil=>simp[vv,aM] at h;subst h;exact k
 |cons x xs G=>obtain⟨u,H,rfl,D,F⟩:=k;cases x with
  |pv v=>simp[vv,bY] at h;obtain⟨z,l,rfl⟩:=h;exact⟨u,H,rfl,D,G l F⟩
  |row id=>simp[vv,bY] at h;obtain⟨z,l,rfl⟩:=h;exact⟨u,H,rfl,D,G l F⟩
  |_=>simp[vv] at h
def Fq {xs:List SV} {l:List AV} {q:List Value} (h:lV xs=some l) (k:iC μ loc xs q):b9 μ l q:=by induction xs generalizing q l with
 |nil=>simp[lV] at h;subst h;assumption
 |cons x xs F=>cases x with
  |pv v=>simp[lV] at h;cases z:lV xs with
   |none=>simp_all
   |some G=>simp[z] at h;subst h;obtain⟨u,H,rfl,B,D⟩:=k;exact bP B (F z D)
  |_=>simp[lV] at h
theorem de {q:Nat} {xs:List (List AV)} {l:List Value} (h:cW μ q xs l):l.length=xs.length *q:=by induction xs generalizing l with
 |nil=>have:l=[]:=h;simp_all
 |cons x xs D=>obtain⟨F,ws,rfl,_,z,B⟩:=h;grind
def NK {q:Nat} {xs:List (List AV)} {z:List Value} (h:cW μ q xs z) {i:Nat} {x:List AV} (B:xs[i]? =some x):
  ∃l:List Value,j4 μ x l/\l.length=q/\∀j u,l[j]? =some u->z[i *q+j]? =some u:=by
 induction xs generalizing z i with
 |nil=>simp at B
 |cons y xs H=>obtain⟨l,ws,rfl,D,F,G⟩:=h;cases i with
  |zero=>grind
  |succ i=>grind
end
section
variable {P:Program} {N:Nat} {w0:World} {μ0:Mu} {L:rV} {μ:Mu} {loc:Nat->Value} {st:St} {a:Act} {w:World}
theorem aW (hR:Rel N w0 μ0 L μ loc st a w) {t:TypeId} {x:Operand} {q:SV} (h:bw P t st x=some q):gG μ loc q (a.eval x):=by cases x with
 |tmp i=>obtain⟨v,B,z⟩:=hR.env i _ h;simp_all[Act.eval]
 |const v=>simp[bw] at h;cases l:ofConst P t v with
  |none=>simp_all
  |some y=>simp[l] at h;subst h;exact vL l
 |func f=>simp[bw] at h;subst h;exact⟨[],rfl,dg⟩
 |global g=>simp[bw] at h
theorem fq (hR:Rel N w0 μ0 L μ loc st a w) {t:TypeId} {x:Operand} {v:AV} (h:(bw P t st x).bind iH =some v):rep μ v (a.eval x):=by cases l:bw P t st x with
 |none=>simp_all
 |some q=>have:=aW hR l;cases q<;>simp[l,iH] at h;subst h;exact this
def P9 (op:BinOp) (t:TypeId) (X Y:Operand) (k k':IntKind) (n m:Int) (w:World):(eqGuard op t X Y (.int k n) (.int k' m)).run P w= .ok () w:=by unfold eqGuard;simp
def Qa (op:BinOp) (t:TypeId) (X Y:Operand) (x y:ByteArray) (w:World):(eqGuard op t X Y (.string x) (.string y)).run P w= .ok () w:=by unfold eqGuard;simp
def Mp (op:BinOp) (t:TypeId) (X Y:Operand) (x y:Bool) (w:World):(eqGuard op t X Y (.bool x) (.bool y)).run P w= .ok () w:=by unfold eqGuard;simp
def run_equalIn_bool (d:Nat) {t:TypeId} (l:P.underlying t=some .bool) (x y:Bool) (w:World):(Op.equalIn (d+1) t (.bool x) (.bool y)).run P w= .ok (x==y) w:=by simp[Op.equalIn,bI l]
def acX (a b:List UInt8):((⟨a.toArray⟩:ByteArray)==⟨b.toArray⟩)=(a==b):=by
 show(a.toArray==b.toArray)=(a==b)
 simp
def X5 {t:TypeId} {a:AV} (h:jB P t a=true):CE P t=some false:=by unfold jB at h;grind[CE]
def Fg {xs Q:List AV} {vs V:List Value} (S:j4 μ xs vs) (U:j4 μ Q V) (d:Nat):∀{F:List Field} {b:Bool},KV P xs Q F=some b->(Op.eqFields (d+1) vs.toArray V.toArray F).run P w= .ok b w
 |[],b=>λh=>by simp_all[KV,Op.eqFields]
 |f::F,b=>λh=>by
  unfold KV at h;split at h
  .rename_i R z G H;cases I:(!(f.name== "_")&&jB P f.type R&&jB P f.type z&&(kL P f.type).isSome) with
   |false=>simp_all
   |true=>
    simp[I] at h;simp at I;obtain⟨⟨⟨hn,l⟩,hky⟩,O⟩:=I;obtain⟨n,D⟩:=j9.1 O;have B:=X5 l;have t1:iD P f.type (xs.drop f.offset)=some R:=by unfold iD;rw[B,D];simpa using G
    have t2:iD P f.type (Q.drop f.offset)=some z:=by unfold iD;rw[B,D];simpa using H
    obtain⟨v,hv,rv⟩:=Jr (w:=w) _ t1 S;obtain⟨u,hu,ru⟩:=Jr (w:=w) _ t2 U;split at h
    .rename_i r q K hq;injection h with h;subst h;have ih:=Fg S U d hq;have he:(Op.equalIn (d+1) f.type v u).run P w= .ok r w:=by
      unfold jB at l;split at l
      .cases z<;>simp[vF] at K;simp_all[rep,run_equalIn_string]
      .cases z<;>simp[vF] at K;simp_all[rep,run_equalIn_int]
      .cases z<;>simp[vF] at K;simp_all[rep,run_equalIn_bool']
      .cases l
     simp[Op.eqFields,au hn,fU,hv,hu,he,gM,Sem.run_ite,ih];cases r<;>simp
    grind
  grind
def L5 {op:BinOp} {t:TypeId} {xs F:List AV} {r:AV} {X Y:Operand} {u v:Value} (h:SE P op t xs F=some r) (Q:rep μ (.agg xs) u) (R:rep μ (.agg F) v):
  ∃z,(do eqGuard op t X Y u v;binOp op t u v).run P w= .ok z w/\rep μ r z:=by
 obtain⟨vs,rfl,H,I⟩:=Q;obtain⟨V,rfl,S,U⟩:=R;unfold SE at h;split at h
 .rename_i G D;cases l:(!(P.stoodInHeld t)&& !(P.eqGuardType P.depth t)) with
  |false=>simp_all
  |true=>
   simp[l] at h;simp at l;have B:P.fieldsOf t=G:=by unfold Program.fieldsOf;rw[D]
   have q:P.underlying t=some (.struct (P.fieldsOf t)):=by rw[B];exact D
   have O:∀b,KV P _ _ _=some b->(Op.equalIn 10000 t _ _).run P w= .ok b w:=λb K=>by rw[run_equalIn_struct w _ t _ _ q l.1,B];exact Fg ⟨H,I⟩ ⟨S,U⟩ _ K
   simp[fU,run_eqGuard_agg w _ t X Y _ _ l.2];split at h
   .injection h with h;subst h;simp_all[binOp,Op.equal,Op.maxDepth,rep]
   .injection h with h;subst h;simp_all[binOp,Op.equal,Op.maxDepth,rep]
   grind
 grind
def Xm {op:BinOp} {t:TypeId} {x y r:AV} {X Y:Operand} {u v:Value} (h:bin P op t x y=some r) (l:rep μ x u) (q:rep μ y v):
  ∃z,(do eqGuard op t X Y u v;binOp op t u v).run P w= .ok z w/\rep μ r z:=by
 cases x with
 |int k n=>cases y with
  |int k' m=>
   rw[rep] at l q;subst l;subst q;simp only[fU,P9,gM];unfold bin at h;cases op
   case shl=>
    simp only[An] at h;split at h
    .cases h
    .injection h with h;subst h;rename_i B;exact⟨_,by simp[binOp,Op.shift,B];rfl,by simp[rep]⟩
   case shr=>
    simp only[An] at h;split at h
    .cases h
    .injection h with h;subst h;rename_i B;exact⟨_,by simp[binOp,Op.shift,B];rfl,by simp[rep]⟩
   case quo=>
    simp only[] at h;split at h
    .rename_i e;subst e;simp only[EE] at h;split at h
     .cases h
     .injection h with h;subst h;simp_all[binOp,Op.intDiv,rep]
    grind
   case rem=>
    simp only[] at h;split at h
    .rename_i e;subst e;simp only[EE] at h;split at h
     .cases h
     .injection h with h;subst h;simp_all[binOp,Op.intDiv,rep]
    grind
   all_goals
    simp only[] at h;split at h
    .rename_i e;subst e;simp only[EE,aM] at h;subst h;simp_all[binOp,Op.intArith,Op.intBits,Op.intCmp,rep]
    grind
  |_=>simp[bin] at h
 |str s=>cases y with
  |str D=>
   rw[rep] at l q;subst l;subst q;simp only[fU,Qa,gM];unfold bin at h;simp only[UT] at h;cases op
   case add=>
    simp only[] at h;split at h
    .injection h with h;subst h;refine⟨.string ⟨(s++D).toArray⟩,?_,by simp[rep]⟩;have B:¬((((⟨s.toArray⟩:ByteArray).size+(⟨D.toArray⟩:ByteArray).size))>IntKind.i64.max):=by
      simp[ByteArray.size];omega
     have e:(⟨s.toArray⟩:ByteArray)++⟨D.toArray⟩=⟨_⟩:=rfl;simp_all[binOp,Op.stringOp]
    grind
   all_goals first
    |grind
    |(simp at h;subst h;simp_all[binOp,Op.stringOp,rep])
  |_=>simp[bin] at h
 |bool b=>cases y with
  |bool c=>
   subst l;subst q;simp[fU,Mp];unfold bin at h;simp at h;split at h
   .injection h with h;subst h;simp_all[binOp,Op.equal,Op.maxDepth,run_equalIn_bool,rep]
   .injection h with h;subst h;simp_all[binOp,Op.equal,Op.maxDepth,run_equalIn_bool,rep]
   grind
  |_=>simp[bin] at h
 |agg xs=>cases y with
  |agg F=>exact L5 (by assumption) l q
  |_=>simp[bin] at h
 |_=>simp[bin] at h
def ac3 {op:UnOp} {x r:AV} {u:Value} (h:un op x=some r) (l:rep μ x u):∃z,(Op.unary op u).run P w= .ok z w/\rep μ r z:=by
 unfold un at h;split at h
 .injection h with h;subst h;simp_all[rep,Op.unary,Op.intArith]
 .injection h with h;subst h;simp_all[rep,Op.unary]
 grind
def iP {B:Nat} {id:Nat} {e:TypeId} {D:Nat} {xs:List (List AV)} (h:lT B L μ loc w id (.row e D xs)):fE (loc id)=loc id:=by obtain⟨F,l,_⟩:=h;rcases l.2 with⟨e1,_⟩|⟨g,q,z,e1,_⟩<;>rw[e1]<;>rfl
def Vl {D:Nat} {id:Nat} {k e:TypeId} {B q:List AV} (h:lT D L μ loc w id (.mp k e B q)):fE (loc id)=loc id:=by obtain⟨b,cM,l,z,_⟩:=h;rw[z];rfl
def tv {q b:Nat} {xs:List (List AV)} {l:Nat} (h:kH μ q b xs l):∃z,cW μ q xs z/\∀j u,z[j]? =some u->μ b (l+j)=some u:=by induction xs generalizing l with
 |nil=>exact⟨[],rfl,ah⟩
 |cons x xs H=>obtain⟨⟨K,B,D,F,O⟩,G⟩:=h;obtain⟨ws,I,R⟩:=H G;refine⟨_,⟨K,ws,rfl,⟨B,D⟩,F,I⟩,λj u Q=> ?_⟩;grind
def lH {B:Nat} {xs:List (List AV)} {q:List Value} (h:cW μ B xs q):∀u∈q,u.oneCell'=true:=by induction xs generalizing q with
 |nil=>have:q=[]:=h;simp_all
 |cons x xs G=>
  obtain⟨a,b,rfl,z,D,F⟩:=h;intro u l;rcases bu.1 l with l|l
  .exact z.2 u l
  grind
def sJ {l:Nat} {xs:List (List AV)} {q:List Value} (h:cW μ l xs q) (n:Nat):cW μ l (xs.take n) (q.take (n *l)):=by induction n generalizing xs q with
 |zero=>simp[cW]
 |succ n F=>cases xs with
  |nil=>simp_all[cW]
  |cons x xs=>obtain⟨G,ws,rfl,z,B,D⟩:=h;refine⟨G,_,?_,z,B,F D⟩;grind[Nat.add_mul]
def Bx {l:Nat} {xs:List (List AV)} {q:List Value} (h:cW μ l xs q) (n:Nat):cW μ l (xs.drop n) (q.drop (n *l)):=by induction n generalizing xs q with
 |zero=>simp_all
 |succ n G=>cases xs with
  |nil=>simp_all[cW]
  |cons x xs=>obtain⟨z,ws,rfl,B,D,F⟩:=h;rw[show(n+1) *l=z.length+n *l from by grind,Fh];simp_all
theorem sW (hR:Rel N w0 μ0 L μ loc st a w) {v:SV} {u:Value} {sz:Nat} {xs:List (List AV)} (q:elems st v=some (sz,xs)) (R:gG μ loc v u):
  ∃A c,u= .slice A xs.length c/\∃D,cW μ sz xs D/\(xs.length=0\/∃ad:Addr,A=some ad/\∀j x,D[j]? =some x->w.cell? (ad.add j)=some x):=by
 cases v with
 |pv v=>cases v with
  |dH V I=>
   obtain⟨rfl,rfl⟩:=q;obtain⟨A,c,e1,_,_,h3⟩:=R;rcases h3 with h0|⟨b,off,rfl,H⟩
   .have :=kX h0;subst this;exact⟨A,c,e1,[],rfl, .inl rfl⟩
   .obtain⟨D,k1,k2⟩:=tv H;exact⟨_,c,e1,D,k1, .inr ⟨_,rfl,λj u hu=>by rw[add_lit];exact s7 (hR.ur _ _ _ (k2 j u hu)) (lH k1 u (aH hu))⟩⟩
  |_=>simp[elems] at q
 |row S=>
  simp[elems] at q;split at q
  .rename_i e' V I z;obtain⟨rfl,rfl⟩:=q;have G:=hR.obs _ _ z;have hb:=iP G;obtain⟨D,l,B,_⟩:=G;have Pk:u=fE _:=R;rcases l.2 with⟨e1,e2⟩|⟨g,F,K,e1,_⟩
   .grind
   .exact⟨_,F,by simp_all,D,B, .inr ⟨_,rfl,l.cells (g:=g) (by rw[e1];rfl)⟩⟩
  simp_all
 |sub S s2 U O=>
  simp[elems] at q;split at q
  .rename_i e' V I z;cases hq:Nat.beq s2 V with
   |false=>simp_all
   |true=>
   rw[hq] at q;obtain⟨rfl,rfl⟩:=q;obtain⟨D,l,B,_⟩:=hR.obs _ _ z;obtain⟨A,n,c,A',c',h1,h2,h3,h4,h5,h6,h7⟩:=R;have hn:n=I.length:=by rcases l.2 with⟨e1,e2⟩|⟨g,F,K,e1,_⟩<;>simp_all
   have hl:((I.take O).drop U).length=O-U:=aD;refine⟨A',c',by simp_all,_,Bx (sJ B _) _,?_⟩;by_cases Q:U<O
   .obtain⟨g,eA,eA'⟩:=h7 Q;have vk:=l.cells (by rw[h1,eA];rfl);simp_all[qu,add_lit]
   omega
  simp_all
 |_=>simp[elems] at q
def Fy (hR:Rel N w0 μ0 L μ loc st a w) {v:SV} {u:Value} {sz:Nat} {xs:List (List AV)} (h:elems st v=some (sz,xs)) (l:gG μ loc v u):
  ∃A c,u= .slice A xs.length c:=by
 grind[sW]
def QW (hR:Rel N w0 μ0 L μ loc st a w) {v:SV} {u:Value} {n:Nat} (h:lenOf st v=some n) (z:gG μ loc v u):∃A c,u= .slice A n c:=by
 unfold lenOf at h;split at h
 .obtain⟨A,c,e⟩:=Fy hR rfl z;simp_all
 .split at h
  .rename_i e s xs l;injection h with h;subst h;exact Fy hR (sz:=s) (by simp[elems,l]) z
  .rename_i e s k H K xs R l;obtain⟨m,O,Q,G,_,q,_⟩:=hR.obs _ _ l;have e1:u=m:=(z).trans (by rw[G];rfl);rcases q.2 with⟨F,I⟩|⟨g,B,D,F,_⟩
   .simp_all
   simp_all
  grind
 grind
def ia {r:Nat} {q:Array MapEntry} {l:Nat} (h:w.heap[r]? =some (.map q l)):(getObj r).run P w= .ok (.map q l) w:=by simp[getObj,Sem.run,h]
def IJ (hR:Rel N w0 μ0 L μ loc st a w) {v:SV} {u:Value} {q B:List AV} (h:maps st v=some (q,B)) (G:gG μ loc v u):
  (u= .map none/\q=[]/\B=[])\/∃b cM l,u= .map (some b)/\w.heap[b]? =some (.map cM l)/\b9 μ q (cM.toList.map (·.key))/\b9 μ B (cM.toList.map (·.val)):=by
 unfold maps at h;split at h
 .rcases G with G|⟨b,kv,U,rfl,H,I,K⟩
  .simp_all
  .obtain⟨cM,l,O,rfl,rfl⟩:=see_map (hR.ur _ _ _ K);simp_all
 .rename_i id;cases F:st.ob id with
  |none=>simp_all
  |some o=>cases o with
   |box t R=>simp_all
   |row e s Q=>simp_all
   |mr k e s z D=>simp_all
   |rn e s k S s' xs Q=>simp_all
   |it s n=>simp_all
   |lp s=>simp_all
   |mp k e z D=>have V:=Vl (hR.obs _ _ F);obtain⟨b,cM,l,hl,_,O,_,H,I,_⟩:=hR.obs _ _ F;simp_all[gG]
 grind
def nN (P:Program) (μ:Mu) (loc:Nat->Value) (o:Oper) (l:SV) (a:Act) (w:World):Prop:=
 ∃v,(execOp a.eval o).run P w= .ok (.value v) w/\gG μ loc l v
def e9 {o:Oper} {s:Sem Value} {l:SV} (z:execOp a.eval o=(do pure (.value (<-s)))) {v:Value} (B:s.run P w= .ok v w) (q:gG μ loc l v):nN P μ loc o l a w:=
 ⟨v,by simp_all,q⟩
section
variable (hR:Rel N w0 μ0 L μ loc st a w)
include hR
theorem BZ {o:Oper} {x:Operand} {q:SV} (l:o.op= .move x\/o.op= .assign x) (h:bw P o.type st x=some q):nN P μ loc o q a w:=by refine⟨_,?_,aW hR h⟩;rcases l with l|l<;> · unfold execOp;simp_all
theorem TA {o:Oper} {c x y:Operand} {q:SV} (B:o.op= .pick c x y) (h:eU P o st=some q):nN P μ loc o q a w:=by
 unfold eU at h;rw[B] at h;simp at h;split at h
 .rename_i t z;have l:=aW hR z;simp[gG,rep] at l;cases t with
  |true=>refine⟨_,?_,aW hR h⟩;simp_all[execOp,asBool]
  |false=>refine⟨_,?_,aW hR h⟩;simp_all[execOp,asBool]
 grind
theorem XO {o:Oper} {op:BinOp} {t I:TypeId} {x y:Operand} {B:SV} (q:o.op= .binOp op t x y I) (h:eU P o st=some B):nN P μ loc o B a w:=by
 unfold eU at h;rw[q] at h;simp at h;split at h
 .rename_i u v F G;cases l:bin P op t u v with
  |none=>simp_all
  |some r=>simp[l] at h;subst h;obtain⟨z,H,D⟩:=Xm l (fq hR F) (fq hR G);exact e9 (by unfold execOp;rw[q]) H D
 grind
theorem aad {o:Oper} {op:UnOp} {t:TypeId} {x:Operand} {B:SV} (q:o.op= .unOp op t x) (h:eU P o st=some B):nN P μ loc o B a w:=by
 unfold eU at h;rw[q] at h;simp at h;split at h
 .rename_i u F;cases l:un op u with
  |none=>simp_all
  |some r=>simp[l] at h;subst h;obtain⟨z,G,D⟩:=ac3 l (fq hR F);exact e9 (by unfold execOp;rw[q]) G D
 grind
omit hR in
theorem PG {xs:List (List AV)} {G:List UInt8} {F:List Value} (h:bytesOf xs=some G) (z:cW μ 1 xs F):∃D:List Int,F=D.map (Value.int .u8)/\G=D.map λn=>UInt8.ofNat n.toNat:=by induction xs generalizing G F with
 |nil=>simp only[bytesOf,aM] at h;subst h;have:F=[]:=z;subst this;exact⟨[],rfl,rfl⟩
 |cons x xs U=>
  obtain⟨u1,ws,rfl,R,V,S⟩:=z;unfold bytesOf at h;split at h
  .rename_i H;cases H
  .rename_i n l H;injection H with e1 Q;subst e1;subst Q;cases I:bytesOf xs with
   |none=>simp[I] at h
   |some O=>simp[I] at h;subst h;obtain⟨D,rfl,rfl⟩:=U I S;have q:=R.1;rw[b9] at q;obtain⟨y,ys,rfl,K,B⟩:=q;rw[b9] at B;subst B;rw[rep] at K;subst K;exact⟨n::D,by simp,ah⟩
  .cases h
omit hR in
theorem foldl_push (l:List Int):l.foldl (λ(r:ByteArray) n=>r.push (UInt8.ofNat n.toNat)) ByteArray.empty=⟨(l.map λn=>UInt8.ofNat n.toNat).toArray⟩:=by
 have key:∀(l:List Int) (s:ByteArray),l.foldl (λ(r:ByteArray) n=>r.push (UInt8.ofNat n.toNat)) s=⟨s.data++(l.map λn=>UInt8.ofNat n.toNat).toArray⟩:=by intro l;induction l with
  |nil=>intro s;simp
  |cons n l q=>intro s;simp only[fB,q];simp[ByteArray.push]
 rw[key];simp
theorem KB {o:Oper} {t S:TypeId} {x:Operand} {sv:SV} (G:o.op= .convert t S x) (h:eU P o st=some sv):nN P μ loc o sv a w:=by
 unfold eU at h;rw[G] at h;simp only[] at h;split at h
 .rename_i e hu hd;split at h
  .rename_i xs he hsz F;cases hb:bytesOf xs with
   |none=>simp_all
   |some V=>
    simp[hb] at h;subst h;obtain⟨sx,K,H⟩:=dL.1 F;obtain⟨A,c,R,U,B,D⟩:=sW hR H (aW hR K);obtain⟨ns,z,l⟩:=PG hb B;have O:=de B;refine e9 (s:=convert t S (a.eval x)) (by unfold execOp;rw[G]) (v:= .string ⟨V.toArray⟩) ?_ (by rfl);have e1:∀v:Value,(∃A n c,v= .slice A n c)->(convert t S v).run P w=(Conv.bytesToString v).run P w:=by rintro v ⟨A,n,c,rfl⟩;simp_all[convert,bI]
    rw[R,e1 _ ⟨_,_,_,rfl⟩];rcases D with h0|⟨ad,rfl,hc⟩
    .have:U=[]:=kX af
     subst this;have I:ns=[]:=by cases ns with
      |nil=>rfl
      |cons=>simp at z
     subst I;have l:V=[]:=l;subst l;rw[h0];cases A with
     |none=>rfl
     |some ad=>rfl
    .have hl:=zh (P:=P) w ad U hc;have q:U.length=xs.length:=by rw[O];simp
     rw[q,z] at hl;rw[run_bytesToString w _ _ c _ hl,l,foldl_push]
  grind
 .split at h
  .rename_i k' n F;injection h with h;subst h;have Q:=fq hR F;rw[rep] at Q;refine e9 (by unfold execOp;rw[G]) ?_ (by rfl);simp_all[convert,bI,Conv.intToInt]
  grind
 .split at h
  .rename_i s F;injection h with h;subst h;have Q:=fq hR F;rw[rep] at Q;refine e9 (by unfold execOp;rw[G]) ?_ (by rfl);simp_all[convert,bI]
  grind
 grind
theorem yR {b:Bool} {B r:AV} {l:List Operand} {u:Value} (h:mh P st b B l=some r) (G:rep μ B u):
  ∃v,((l.map a.eval).foldlM (if b then Builtin.max2 else Builtin.min2) u).run P w= .ok v w/\rep μ r v:=by
 induction l generalizing B u with
 |nil=>simp[mh] at h;simp_all
 |cons x l O=>
  simp[mh] at h;split at h
  .rename_i v I;split at h
   .rename_i R q;have H:=fq hR I;unfold aci at q;split at q
    .grind[rep,Builtin.max2,Builtin.min2]
    .rename_i s1 s2;injection q with q;subst q;rw[rep] at G H;subst G;obtain⟨z,K,D⟩:=O h (u:= .string ⟨(bif b then(bif !(Op.bytesLess s1 s2) then s1 else s2) else(bif Op.bytesLess s1 s2||s1==s2 then s1 else s2)).toArray⟩) (by simp[rep]);refine⟨z,?_,D⟩;rw[<-K];simp[aR,H];cases b with
     |true=>cases F:Op.bytesLess _ _<;>simp[Builtin.max2,Op.stringOp,asBool,F]
     |false=>cases F:Op.bytesLess _ _<;>cases Q:s1==s2<;>simp_all[Builtin.min2,Op.stringOp,asBool]
    simp_all
   grind
  grind
theorem FE {o:Oper} {c:Call} {V:SV} (S:o.op= .call c) (h:wX P c st=some V):nN P μ loc o V a w:=by
 obtain⟨O,⟨args⟩,⟨F⟩⟩:=c;unfold wX at h;simp only[] at h;split at h
 .rename_i x;split at h
  .rename_i t;split at h
   .rename_i s G B;injection h with h;subst h;have q:=aW hR B;simp only[gG,rep] at q;refine⟨.int .i64 s.length,?_,by rfl⟩;have R:(⟨s.toArray⟩:ByteArray).size=s.length:=rfl;unfold execOp;rw[S];simp[resolve,invoke,builtin,Builtin.len_,bI G,q,goInt,R]
   .rename_i e G B;injection h with h;subst h;have q:=aW hR B;simp only[gG,rep] at q;refine⟨.int .i64 0,?_,by rfl⟩;simp_all[execOp,resolve,invoke,builtin,Builtin.len_,bI,goInt]
   .rename_i e id sz lo hi G B;injection h with h;subst h;obtain⟨A,n,c,A',c',_,hlo,hhi,_,q,_⟩:=aW hR B;refine⟨.int .i64 ((hi-lo:Nat):Int),?_,by rfl⟩;simp_all[execOp,resolve,invoke,builtin,Builtin.len_,bI,goInt]
   .rename_i e v _ _ G B;cases H:lenOf st v with
    |none=>simp_all
    |some y=>simp[H] at h;subst h;obtain⟨A,c,q⟩:=QW hR H (aW hR B);refine⟨.int .i64 y,?_,by rfl⟩;simp_all[execOp,resolve,invoke,builtin,Builtin.len_,bI,goInt]
   .rename_i kt et v G B;cases H:maps st v with
    |none=>simp_all
    |some y=>
     obtain⟨U,vs⟩:=y;simp[H] at h;subst h;refine⟨.int .i64 U.length,?_,by rfl⟩;unfold execOp;rw[S];rcases IJ hR H (aW hR B) with⟨q,rfl,rfl⟩|⟨b,cM,Q,q,hh,h1,h2⟩
     .simp_all[resolve,invoke,builtin,Builtin.len_,bI,goInt]
     .have I:cM.size=U.length:=by simpa using nH h1
      simp[resolve,invoke,builtin,Builtin.len_,bI G,q,goInt,ia hh,I]
   grind
  grind
 .rename_i x l;split at h
  .rename_i v q;cases K:mh P st true v l with
   |none=>simp_all
   |some r=>simp[K] at h;subst h;obtain⟨z,hz,D⟩:=yR hR K (fq hR q);refine⟨z,?_,D⟩;simp_all[execOp,fQ,resolve,invoke,builtin,Builtin.max_]
  grind
 .rename_i x l;split at h
  .rename_i v q;cases K:mh P st false v l with
   |none=>simp_all
   |some r=>simp[K] at h;subst h;obtain⟨z,hz,D⟩:=yR hR K (fq hR q);refine⟨z,?_,D⟩;simp_all[execOp,resolve,invoke,builtin,Builtin.min_]
  grind
 grind
omit hR in
theorem FA {t:TypeId} {f:Nat} {fd:Field} (h:vD P t f=some fd):∃l,P.underlying t=some (.struct l)/\l[f]? =some fd:=by
 unfold vD at h;split at h
 .rename_i l q;exact⟨l,q,h⟩
 .cases h
theorem Gq {o:Oper} {t:TypeId} {x:Operand} {f:Nat} {K:SV} (B:o.op= .fieldAddr t x f) (h:eU P o st=some K):nN P μ loc o K a w:=by
 unfold eU at h;rw[B] at h;simp at h;split at h
 .rename_i fd Q;obtain⟨fs,hu,R⟩:=FA Q;split at h
  .cases h
  .have run:∀ad:Addr,(Instr.fieldAt t (.pointer (some ad)) f).run P w= .ok (.pointer (some (ad.add fd.offset))) w:=λad=>by
    simp_all[Instr.fieldAt,bI,Instr.sureAddr,fieldPlace,kn]
   split at h
   .rename_i id z q;injection h with h;subst h;obtain⟨b,H,l⟩:=aW hR q;refine e9 (by unfold execOp;rw[B]) (by rw[l];exact run _) ?_;exact⟨b,H,by rw[add_lit]⟩
   .rename_i O q;injection h with h;subst h;obtain⟨b,z,vs,l,D,U⟩:=aW hR q;refine e9 (by unfold execOp;rw[B]) (by rw[l];exact run _) ?_;refine⟨b,_,_,by rw[add_lit],D.drop _,λj v S=> ?_⟩;grind
   .rename_i O q;injection h with h;subst h;have I:=aW hR q;obtain⟨b,z,vs,l,F,G,U⟩:=I;have D:j4 _ _ _:=⟨F,G⟩
    refine e9 (by unfold execOp;rw[B]) (by rw[l];exact run _) ?_;refine⟨b,_,_,by rw[add_lit],D.drop _,λj v S=> ?_⟩;grind
   .rename_i id sz i z q;injection h with h;subst h;obtain⟨g,V,c,H,l⟩:=aW hR q;refine e9 (by unfold execOp;rw[B]) (by rw[l];exact run _) ?_;exact⟨g,V,c,H,by rw[add_lit,kY]⟩
   grind
  grind
 grind
theorem Io {o:Oper} {x:Operand} {z:SV} (B:o.op= .nilCheck x) (h:eU P o st=some z):nN P μ loc o z a w:=by
 unfold eU at h;simp[B] at h;have G:bw P 0 st x=some z/\∃p,a.eval x= .pointer (some p):=by
  split at h
  .rename_i id q l;have:=aW hR l;grind[gG]
  .rename_i D l;have:=aW hR l;grind[gG]
  .rename_i D l;have:=aW hR l;grind[gG,rep]
  .rename_i id H i q l;have:=aW hR l;grind[gG]
  .cases h
 obtain⟨l,p,F⟩:=G;refine e9 (s:=pure _) ?_ rfl (aW hR l);simp[execOp,B,F]
theorem Qt {o:Oper} {t:TypeId} {x:Operand} {f:Nat} {D:SV} (z:o.op= .field t x f) (h:eU P o st=some D):nN P μ loc o D a w:=by
 unfold eU at h;rw[z] at h;simp at h;split at h
 .rename_i fd F I O;obtain⟨Q,S,K⟩:=FA I;cases q:iD P fd.type (F.drop fd.offset) with
  |none=>simp_all
  |some y=>simp[q] at h;subst h;have B:=fq hR O;obtain⟨U,B,G,H⟩:=B;obtain⟨v,R,l⟩:=Jr (w:=w) _ q ⟨G,H⟩;refine e9 (by unfold execOp;rw[z]) ?_ l;simp_all[Instr.field,bI,asAgg]
 grind
theorem Gs {o:Oper} {t:TypeId} {x ix:Operand} {sv:SV} (ho:o.op= .indexAddr t x ix) (h:eU P o st=some sv):nN P μ loc o sv a w:=by
 unfold eU at h;rw[ho] at h;simp only[] at h;split at h
 .rename_i n e hu;unfold B1 at h;split at h
  .rename_i s id K k i B S R;split at h
   .rename_i O;obtain⟨Q,G,hpos⟩:=O;injection h with h;subst h;have l:=aW hR R;simp only[gG,rep] at l;obtain⟨b,hl,D⟩:=aW hR S;refine e9 (s:=Instr.indexAt t (a.eval x) (a.eval ix)) (by unfold execOp;rw[ho]) (v:= .pointer (some ((⟨b,K,none⟩:Addr).add (i.toNat *s)))) ?_ ?_
    .rw[D,l];have:=kn B w;simp[Instr.indexAt,asIntOf,bI hu,Instr.sureAddr,Q,G,this]
    .exact⟨b,hl,by rw[add_lit]⟩
   grind
  .rename_i s id sz j K k i B S R;split at h
   .rename_i O;obtain⟨Q,G,hpos⟩:=O;injection h with h;subst h;have l:=aW hR R;simp only[gG,rep] at l;obtain⟨g,m,c,hl,D⟩:=aW hR S;refine e9 (s:=Instr.indexAt t (a.eval x) (a.eval ix)) (by unfold execOp;rw[ho]) (v:= .pointer (some ((⟨g,j *sz+K,none⟩:Addr).add (i.toNat *s)))) ?_ ?_
    .rw[D,l];have:=kn B w;simp[Instr.indexAt,asIntOf,bI hu,Instr.sureAddr,Q,G,this]
    .exact⟨g,m,c,hl,by rw[add_lit,kY]⟩
   grind
  .rename_i s cs k i B S R;split at h
   .rename_i O;obtain⟨Q,G,hpos⟩:=O;injection h with h;subst h;have l:=aW hR R;simp only[gG,rep] at l;obtain⟨b,K,vs,D,hcs,hm⟩:=aW hR S;refine e9 (s:=Instr.indexAt t (a.eval x) (a.eval ix)) (by unfold execOp;rw[ho]) (v:= .pointer (some ((⟨b,K,none⟩:Addr).add (i.toNat *s)))) ?_ ?_
    .rw[D,l];have:=kn B w;simp[Instr.indexAt,asIntOf,bI hu,Instr.sureAddr,Q,G,this]
    .exact⟨b,_,_,by rw[add_lit],hcs.drop _,λq u hq=>by grind⟩
   grind
  grind
 unfold wN at h;split at h
 .rename_i e s sz xs k i hs S R;obtain⟨hu,inf,H,B⟩:=gr hs;split at h
  .rename_i O;obtain⟨rfl,Q⟩:=O;cases hg:xs[i.toNat]? with
   |none=>simp_all
   |some y=>
    simp[hg] at h;subst h;have G:i.toNat<xs.length:=(bD.1 hg).1;have D:=aW hR S;have l:=aW hR R;simp only[gG,rep] at D l;obtain⟨A,c,D,hlc,hcm,V⟩:=D;rcases V with hz|⟨b,K,rfl,V⟩
    .omega
    .obtain⟨vs,hc1,Sk,hc3⟩:=Ck V hg;refine e9 (s:=Instr.indexAt t (a.eval x) (a.eval ix)) (by unfold execOp;rw[ho]) (v:= .pointer (some ((⟨b,K,none⟩:Addr).add (i.toNat *s)))) ?_ ?_
     .rw[D,l];have I:i<(xs.length:Int):=by omega
      simp[Instr.indexAt,asIntOf,bI hu,Q,I,sizeOf,typeInfo,H,B]
     .refine⟨b,K+i.toNat *s,vs,by rw[add_lit],hc1,hc3⟩
  grind
 .rename_i e s id k i hs S R;obtain⟨hu,inf,H,B⟩:=gr hs;split at h
  .rename_i e' sz xs r6;split at h
   .rename_i O;obtain⟨rfl,Q,G⟩:=O;injection h with h;subst h;have D:=aW hR S;have l:=aW hR R;simp only[gG,rep] at D l;rw[iP (hR.obs id _ r6)] at D;obtain⟨vs,U,hrc,_⟩:=hR.obs id _ r6;obtain⟨g,F,z,_⟩:∃g F,loc id= .slice (some ⟨g,0,none⟩) xs.length F/\True:=by
     rcases U.2 with⟨_,e2⟩|⟨g,F,cur,e1,_⟩
     .omega
     simp_all
    refine e9 (s:=Instr.indexAt t (a.eval x) (a.eval ix)) (by unfold execOp;rw[ho]) (v:= .pointer (some ((⟨g,0,none⟩:Addr).add (i.toNat *s)))) ?_ ?_
    .rw[D,l,z];have I:i<(xs.length:Int):=by omega
     simp[Instr.indexAt,asIntOf,bI hu,Q,I,sizeOf,typeInfo,H,B]
    .exact⟨g,_,F,by rw[z];rfl,by rw[add_lit];simp⟩
   grind
  .rename_i e' sz k e2 s2 xs ys r6;split at h
   .rename_i O;obtain⟨rfl,Q,G⟩:=O;injection h with h;subst h;have D:=aW hR S;have l:=aW hR R;simp only[gG,rep] at D l;obtain⟨m,us,vs,hl,_,U,_⟩:=hR.obs id _ r6;rw[hl] at D;replace D:a.eval x=m:=D;obtain⟨g,F,z,_⟩:∃g F,m= .slice (some ⟨g,0,none⟩) xs.length F/\True:=by
     rcases U.2 with⟨_,e2⟩|⟨g,F,cur,e1,_⟩
     .omega
     simp_all
    refine e9 (s:=Instr.indexAt t (a.eval x) (a.eval ix)) (by unfold execOp;rw[ho]) (v:= .pointer (some ((⟨g,0,none⟩:Addr).add (i.toNat *s)))) ?_ ?_
    .rw[D,l,z];have I:i<(xs.length:Int):=by omega
     simp[Instr.indexAt,asIntOf,bI hu,Q,I,sizeOf,typeInfo,H,B]
    .exact⟨g,_,F,by rw[hl];exact z,by rw[add_lit];simp⟩
   grind
  grind
 .rename_i e s id sz lo hi' k i hs S R;obtain⟨hu,inf,H,B⟩:=gr hs;split at h
  .rename_i O;obtain⟨rfl,Q,G⟩:=O;injection h with h;subst h;have l:=aW hR R;simp[gG,rep] at l;obtain⟨A,n,c,A',c',z,hlo,hhi,hc',D,_,hg⟩:=aW hR S;obtain⟨g,rfl,rfl⟩:=hg af;refine e9 (by unfold execOp;rw[ho]) (v:= .pointer (some ((⟨g,lo *s,none⟩:Addr).add (i.toNat *s)))) ?_ ?_
   .simp_all[Instr.indexAt,asIntOf,bI,sizeOf,typeInfo]
   .exact⟨g,_,c,by rw[z];rfl,by grind[add_lit]⟩
  grind
 grind
theorem Qu {o:Oper} {t:TypeId} {x K:Operand} {D:SV} (B:o.op= .index t x K) (h:eU P o st=some D):nN P μ loc o D a w:=by
 unfold eU at h;rw[B] at h;simp at h;split at h
 .rename_i s k i Q I G;split at h
  .cases z:s[i.toNat]? with
   |none=>simp_all
   |some b=>
    simp[z] at h;subst h;have H:=aW hR I;have l:=aW hR G;simp[gG,rep] at H l;refine e9 (by unfold execOp;rw[B]) ?_ (by rfl);have q:=(bD.1 z)
    obtain⟨O,F⟩:=q
    have:(⟨s.toArray⟩:ByteArray)[i.toNat]? =some b:=by rw[getElem?_pos _ _ _];show some s.toArray[i.toNat]=some b;simp[F]
    simp_all[Instr.index,asIntOf,bI]
  grind
 grind
theorem Tz {o:Oper} {t:TypeId} {x:Operand} {sv:SV} (ho:o.op= .load t x) (h:eU P o st=some sv):nN P μ loc o sv a w:=by
 have start:∀(ad:Addr),a.eval x= .pointer (some ad)->∀v,(loadVar t ad).run P w= .ok v w->∀sv,gG μ loc sv v->nN P μ loc o sv a w:=λad H v O sv hs=>e9 (s:=Instr.loadAt t (a.eval x)) (by unfold execOp;rw[ho]) (v:=v) (by simp_all[Instr.loadAt,Instr.sureAddr]) hs
 unfold eU at h;rw[ho] at h;simp only[] at h;split at h
 .rename_i cs I;cases K:iD P t cs with
  |none=>simp_all
  |some y=>simp[K] at h;subst h;obtain⟨b,l,D,H,R,hm⟩:=aW hR I;obtain⟨v,O,z⟩:=rD (w:=w) (ad:=⟨b,l,none⟩) K R (λj u B=>by rw[add_lit];exact s7 (hR.ur _ _ _ (hm j u B)) (R.2 u (aH B)));exact start _ H v O _ z
 .rename_i cs I;cases K:iD P t cs with
  |none=>simp_all
  |some y=>
   simp[K] at h;subst h;have hx':=aW hR I;simp only[gG,rep] at hx';obtain⟨b,l,D,H,S,Sk,hm⟩:=hx';have R:j4 μ cs D:=⟨S,Sk⟩
   obtain⟨v,O,z⟩:=rD (w:=w) (ad:=⟨b,l,none⟩) K R (λj u B=>by rw[add_lit];exact s7 (hR.ur _ _ _ (hm j u B)) (R.2 u (aH B)));exact start _ H v O _ z
 .rename_i id sz i l I;split at h
  .rename_i e sz' xs F;split at h
   .rename_i hsz;subst hsz;cases hg:xs[i]? with
    |none=>simp_all
    |some c=>cases K:iD P t (c.drop l) with
     |none=>simp_all
     |some y=>
      simp[hg,K] at h;subst h;obtain⟨g,n,cp,V,H⟩:=aW hR I;rw[iP (hR.obs id _ F)] at V;obtain⟨D,G,hrc,_⟩:=hR.obs id _ F;obtain⟨us,S,Sk,hc3⟩:=NK hrc hg;have q:=G.cells (g:=g) (by rw[V];rfl)
      obtain⟨v,O,z⟩:=rD (w:=w) (ad:=⟨g,i *sz+l,none⟩) K (S.drop l) (λj u B=>by
       rw[vn] at B;have:=q _ _ (hc3 _ _ B);rw[add_lit] at this⊢
       rwa[show 0+(i *sz+(l+j))=i *sz+l+j from by omega] at this)
      exact start _ H v O _ z
   grind
  .rename_i e sz' k e' s' xs ys F;split at h
   .rename_i R;obtain⟨rfl,rfl,hi,hagg⟩:=R;injection h with h;subst h;obtain⟨g,n,cp,V,H⟩:=aW hR I;obtain⟨m,us,D,hl2,hm,G,hrc,hk,h2,h3,h4,h5,h6,h7⟩:=hR.obs id _ F;have Iq:m= .slice (some ⟨g,0,none⟩) n cp:=by rw[hl2] at V;exact V
    have q:=G.cells (g:=g) (by rw[Iq];rfl);have hlt:i *sz+l<D.length:=by rw[de hrc];have:=jx sz (show i+1<=xs.length from hi);rw[j8,Nat.one_mul] at this;have:=hk.1;omega
    obtain⟨u,B⟩:∃u,D[i *sz+l]? =some u:=⟨D[i *sz+l],aK hlt⟩
    have hcu:=q _ _ B;rw[add_lit,gv] at hcu;refine start _ H u (by simp_all[loadVar,qI]) _ ?_;refine⟨m,us,hl2,⟨_,_,_,Iq⟩,λx I=> ?_⟩;cases hy:ys[i]? with
    |none=>simp_all
    |some y=>cases y with
     |none=>grind
     |some zs=>grind
   grind
  grind
 .rename_i id l I;obtain⟨b,V,H⟩:=aW hR I;split at h
  .rename_i bt cells F;obtain⟨b',D,hl',hnF,U,xw,hss,h1⟩:=hR.obs id _ F;rw[V] at hl';simp only[zi,aM,zj,fD] at hl';subst hl';have hcell:∀j,w.cell? ⟨b,j,none⟩=D[j]? :=λj=>by rw[cell_of_row w b j D.toArray bt _ U];simp
   split at h
   .split at h
    .obtain⟨v,hv',O⟩:=LG hss h;simp_all[loadVar,qI]
    grind
   .split at h
    .rename_i n hsz;split at h
     .have Q:=Cm (Cl hss l) n;have hlen:=pg hss;have hl2:((D.drop l).take n).length=n:=aD;have O:=zh (P:=P) w ⟨b,l,none⟩ ((D.drop l).take n) (λj v hj=>by simp_all[add_lit,qu]);cases hp:lV ((cells.drop l).take n) with
      |none=>
       simp[hp,bY] at h;obtain⟨ks,hk,rfl⟩:=h;refine start _ H (.agg ((D.drop l).take n).toArray) ?_ _ ?_
       .simp_all[loadVar,qI,kn]
       .exact⟨_,rfl,PD hk Q,λu B=>h1 u (uE (uF B))⟩
      |some cs=>
       simp[hp] at h;subst h;refine start _ H (.agg ((D.drop l).take n).toArray) ?_ _ ?_
       .simp_all[loadVar,qI,kn]
       .exact⟨_,rfl,Fq hp Q,λu B=>h1 u (uE (uF B))⟩
     grind
    grind
   grind
  grind
 grind
theorem iY {q:Option Operand} {B:Option SV} {d y r:Nat} (l:ng P st q=some B) (h:gW B d y=some r) (code:BoundsCode):
  (q=none/\r=d)\/∃x,q=some x/\(Instr.sliceBound (a.eval x) y code).run P w= .ok r w/\r<=y:=by
 cases q with
 |none=>simp[ng,aM] at l;subst l;simp[gW] at h;simp_all
 |some x=>simp[ng] at l;cases z:bw P 0 st x with
  |none=>simp_all
  |some F=>simp[z] at l;subst l;have D:=aW hR z;cases F with
   |pv v=>cases v with
    |int k i=>
     simp only[gW] at h;split at h
     .injection h with h;subst h;simp[gG,rep] at D;simp_all[Instr.sliceBound,asIntOf]
     grind
    |_=>simp[gW] at h
   |_=>simp[gW] at h
omit hR in
theorem Dm (s:List UInt8) (l h:Nat) (z:l<=h) (q:h<=s.length):(⟨s.toArray⟩:ByteArray).extract l h=⟨((s.take h).drop l).toArray⟩:=by apply ByteArray.ext;simp[ByteArray.data_extract,List.extract_eq_take_drop,Fi]
theorem NP {t e:TypeId} {s:Nat} {x:Operand} {V G:Option Operand} {lv S:Option SV} {A:Option Addr} {m c B l:Nat} (hu:P.underlying t=some (.slice e)) (I:kL P e=some s) (hxv:a.eval x= .slice A m c) (hlc:m<=c)
  (H:ng P st V=some lv) (z:ng P st G=some S) (q:gW S m m=some B) (D:gW lv 0 B=some l):
  (Instr.sliceAt t (a.eval x) (V.map a.eval) (G.map a.eval) none).run P w= .ok (.slice (if c=l then A else A.map (·.add (l *s))) (B-l) (c-l)) w:=by
 obtain⟨inf,R,hs⟩:∃i,P.info? e=some i/\i.size=s:=by unfold kL at I;simp_all
 have Q:B<=m:=by rcases iY hR z q .sliceAcap with⟨_,e⟩|⟨_,_,_,e⟩<;>omega
 have hlh:l<=B:=by rcases iY hR H D .sliceB with⟨_,e⟩|⟨_,_,_,e⟩<;>omega
 have F:G=none/\B=m\/∃y,G=some y/\(Instr.sliceBound (a.eval y) c .sliceAcap).run P w= .ok B w:=by cases G with
  |none=>
   rcases iY hR z q .sliceAcap with⟨_,e⟩|⟨_,e,_⟩
   .simp_all
   grind
  |some y=>refine .inr ⟨y,rfl,?_⟩;simp[ng] at z;cases U:bw P 0 st y with
   |none=>simp_all
   |some O=>simp[U] at z;subst z;have K:=aW hR U;cases O with
    |pv v=>cases v with
     |int k i=>
      simp only[gW] at q;split at q
      .simp[gG,rep] at K
       have:i<=(c):=af
       simp_all[Instr.sliceBound,asIntOf]
      simp_all
     |_=>simp[gW] at q
    |_=>simp[gW] at q
 rcases F with⟨rfl,rfl⟩|⟨xh,rfl,rh⟩<;>
 rcases iY hR H D .sliceB with⟨rfl,rfl⟩|⟨xl,rfl,rl,_⟩<;>
 simp[Instr.sliceAt,Instr.slice,bI _,Instr.sliceBounds,sizeOf,typeInfo, *]
theorem K0 {K I:Option Operand} {H G:Option SV} {m q l:Nat} (F:ng P st K=some H) (D:ng P st I=some G) (z:gW G m m=some q) (B:gW H 0 q=some l):q<=m/\l<=q:=by
 constructor
 .rcases iY hR D z .sliceAcap with⟨_,e⟩|⟨_,_,_,e⟩<;>omega
 .rcases iY hR F B .sliceB with⟨_,e⟩|⟨_,_,_,e⟩<;>omega
theorem Qv {o:Oper} {t:TypeId} {x:Operand} {lo hi:Option Operand} {sv:SV} (ho:o.op= .slice t x lo hi none) (h:eU P o st=some sv):nN P μ loc o sv a w:=by
 unfold eU at h;rw[ho] at h;simp only[] at h;split at h
 .rename_i s lv hv R V F D;split at h
  .rename_i H B;cases z:gW lv 0 H with
   |none=>simp_all
   |some l=>
    simp[z] at h;subst h;have G:=aW hR V;simp only[gG,rep] at G;have I:H<=s.length:=by rcases iY hR D B .sliceAlen with⟨_,e⟩|⟨_,_,_,e⟩<;>omega
    have Q:l<=H:=by rcases iY hR F z .sliceB with⟨_,e⟩|⟨_,_,_,e⟩<;>omega
    refine e9 (s:=Instr.sliceAt t (a.eval x) (lo.map a.eval) (hi.map a.eval) none) (by unfold execOp;simp_all) (v:= .string ⟨((s.take H).drop l).toArray⟩) ?_ (by rfl);rw[G];have U:(⟨s.toArray⟩:ByteArray).size=s.length:=rfl;have hex:=Dm s l H Q I;rcases iY hR D B .sliceAlen with⟨rfl,rfl⟩|⟨xh,rfl,rh,_⟩<;>
    rcases iY hR F z .sliceB with⟨rfl,rfl⟩|⟨xl,rfl,rl,_⟩<;>
    simp_all[Instr.sliceAt,Instr.slice,bI R,Instr.sliceBounds]
  grind
 .rename_i e sz xs lv hv R V F D;split at h
  .rename_i e' s H hs B;obtain⟨q,inf,O,U⟩:=gr hs;rw[R] at q;injection q with q;injection q with q;subst q;split at h
   .rename_i e;subst e;cases z:gW lv 0 H with
    |none=>simp_all
    |some l=>
     simp[z] at h;subst h;have G:=aW hR V;simp only[gG,rep] at G;obtain⟨A,c,G,hlc,hcm,S⟩:=G;have I:H<=xs.length:=by rcases iY hR D B .sliceAcap with⟨_,e⟩|⟨_,_,_,e⟩<;>omega
     have Q:l<=H:=by rcases iY hR F z .sliceB with⟨_,e⟩|⟨_,_,_,e⟩<;>omega
     refine e9 (s:=Instr.sliceAt t (a.eval x) (lo.map a.eval) (hi.map a.eval) none) (by unfold execOp;simp_all)
      (v:= .slice (if c=l then A else A.map (·.add (l *s))) (H-l) (c-l)) ?_ ?_
     .grind[NP,kL]
     .show rep μ (.dH s ((xs.take H).drop l)) _;rw[rep];have hlen:((xs.take H).drop l).length=H-l:=aD;refine⟨_,_,by rw[hlen],by omega,by omega,?_⟩;rcases S with hz|⟨b,off,rfl,S⟩
      .omega
      .by_cases hc:c=l
       .omega
       .refine .inr ⟨b,off+l *s,by rw[aq hc];simp[add_lit],?_⟩;simp_all[RH,RI]
   grind
  grind
 .rename_i e id lv hv R V F D;split at h
  .rename_i e' s e2 sz xs hs r6;obtain⟨q,inf,O,U⟩:=gr hs;rw[R] at q;injection q with q;injection q with q;subst q;split at h
   .rename_i H B;split at h
    .rename_i e;subst e;cases z:gW lv 0 H with
     |none=>simp_all
     |some l=>
      simp[z] at h;subst h;have G:a.eval x=loc id:=(aW hR V:a.eval x=fE (loc id)).trans (iP (hR.obs id _ r6));obtain⟨I,Q⟩:=K0 hR F D B z;obtain⟨vs,hown,hrc,_⟩:=hR.obs id _ r6;obtain⟨A,c,K,hlc,hA⟩:∃A c,loc id= .slice A xs.length c/\xs.length<=c/\(0<xs.length->∃g,A=some ⟨g,0,none⟩):=by
       rcases hown.2 with⟨e1,e2⟩|⟨g,cap,cur,e1,h2,h3,h4⟩
       .simp_all
       grind
      refine e9 (s:=Instr.sliceAt t (a.eval x) (lo.map a.eval) (hi.map a.eval) none) (by unfold execOp;simp_all)
       (v:= .slice (if c=l then A else A.map (·.add (l *s))) (H-l) (c-l)) (NP hR R (by rw[kL,O];grind) (G.trans K) hlc F D B z) ?_
      refine⟨A,_,c,_,_,K,Q,I,by omega,rfl,λe=> ?_,λhlt=> ?_⟩
      .simp_all[add_zero']
      .obtain⟨g,rfl⟩:=hA af;refine⟨g,rfl,?_⟩;rw[aq af];simp[add_lit]
    grind
   grind
  grind
 .rename_i e id sz a' b' lv hv R V F D;split at h
  .rename_i e' s H hs B;obtain⟨q,inf,O,U⟩:=gr hs;rw[R] at q;injection q with q;injection q with q;subst q;split at h
   .rename_i e;subst e;cases z:gW lv 0 H with
    |none=>simp_all
    |some l=>
     simp[z] at h;subst h;obtain⟨A,n,c,A',c',K,hl1,hl2,hc',G,hz,hg⟩:=aW hR V;obtain⟨I,Q⟩:=K0 hR F D B z;refine e9 (by unfold execOp;simp_all)
      (v:= .slice (if c'=l then A' else A'.map (·.add (l *s))) _ _) (NP hR R (by rw[kL];grind) G hc' F D B z) ?_
     refine⟨A,_,c,(if c'=l then A' else A'.map (·.add (l *s))),c'-l,K,by omega,by omega,by omega,by grind,λe=> ?_,λhlt=> ?_⟩
     .simp_all[add_zero']
     .obtain⟨g,rfl,rfl⟩:=hg af;rw[aq af];simp[add_lit,j8]
   grind
  grind
 grind
theorem KC {o:Oper} {x:Operand} {i:Nat} {G:SV} (z:o.op= .extract x i) (h:eU P o st=some G):nN P μ loc o G a w:=by
 unfold eU at h;rw[z] at h;simp at h;split at h
 .rename_i H D;cases F:H[i]? with
  |none=>simp_all
  |some y=>simp[F] at h;subst h;have q:=aW hR D;obtain⟨K,q,l⟩:=q;obtain⟨u,I,B⟩:=sg l F;refine e9 (by unfold execOp;rw[z]) ?_ B;simp_all[Instr.extract]
 .rename_i v b D;obtain⟨u,q,B⟩:=aW hR D;split at h
  .injection h with h;subst h;refine e9 (by unfold execOp;rw[z]) ?_ B;rw[q];rfl
  .injection h with h;subst h;refine e9 (by unfold execOp;rw[z]) ?_ (by rfl);rw[q];rfl
  grind
 grind
omit hR in
theorem AA {F:List TypeId} {l:List Value} {z:List AV} (h:nt P F l=some z):j4 μ z l:=by induction F generalizing l z with
 |nil=>cases l with
  |nil=>simp[nt] at h;subst h;exact⟨dg,ah⟩
  |cons v l=>simp[nt] at h
 |cons t F H=>cases l with
  |nil=>simp[nt] at h
  |cons v l=>
   simp only[nt] at h;split at h
   .rename_i x xs q D;injection h with h;subst h;have G:=vL (P:=P) (μ:=μ) q;have k:=H D;refine⟨bP G k.1,λu B=> ?_⟩;rcases aF.1 B with rfl|B
    .unfold ofConst at q;split at q<;>first|rfl|(cases q)
    .exact k.2 u B
   .cases h
omit hR in
theorem Si {F:List TypeId} {q:List Value} {B:List AV} (h:nt P F q=some B) {k s:Nat} (z:B[k]? =some (.dH s [])):∃v,q[k]? =some v/\v= .slice none 0 0:=by induction F generalizing q B k with
 |nil=>cases q with
  |nil=>simp[nt] at h;subst h;simp at z
  |cons v q=>simp[nt] at h
 |cons t F I=>cases q with
  |nil=>simp[nt] at h
  |cons v q=>
   simp only[nt] at h;split at h
   .rename_i x xs l D;injection h with h;subst h;cases k with
    |zero=>
     simp at z;subst z;refine⟨v,rfl,?_⟩;unfold ofConst at l;split at l
     .cases l
     .cases l
     .cases l
     .rfl
     .cases l
     .cases l
     .split at l<;>cases l
     .cases l
    |succ k=>obtain⟨K,G,H⟩:=I D (by simpa using z);exact⟨K,by simpa using G,H⟩
   .cases h
omit hR in
theorem RF {z:List AV}:∀{k:Nat} {q:List Value} {u:Value} {a:AV},b9 μ z q->q[k]? =some u->rep μ a u->b9 μ (z.set k a) q:=by induction z with
 |nil=>intro k q u a h l _;simp only[b9] at h;subst h;simp at l
 |cons c z H=>intro k q u a h l D;obtain⟨v,F,rfl,G,B⟩:=h;cases k with
  |zero=>simp at l;subst l;exact⟨v,F,rfl,D,B⟩
  |succ k=>exact⟨v,F,rfl,G,H B (by simpa using l) D⟩
omit hR in
theorem p9 {t:TypeId} {z:List AV} (h:zeroCells P t=some z):∃i v,P.info? t=some i/\i.zero=some v/\j4 μ z v.cells.toList:=by
 unfold zeroCells at h;split at h
 .rename_i i l;split at h
  .rename_i v q;exact⟨i,v,l,q,AA h⟩
  .cases h
 .cases h
theorem wz {ty:Nat->TypeId} {l:List (Nat×Operand)} {q:List (Nat×AV)} (h:partsOf P ty st l=some q):
  q.map (·.1)=l.map (·.1)/\b9 μ (q.map (·.2)) (l.map λp=>a.eval p.2):=by
 induction l generalizing q with
 |nil=>simp[partsOf] at h;subst h;exact⟨rfl,dg⟩
 |cons p l z=>grind[partsOf,bP,fq]
omit hR in
theorem Gb (z:List Value):∀(l:List Value) (q k:Nat),q+k+l.length<=z.length->
  ((l.zipIdx k).foldl (λ(B:Array Value) (p:Value×Nat)=>B.setIfInBounds (q+p.2) p.1) z.toArray)=(z.take (q+k)++l++z.drop (q+k+l.length)).toArray:=by
 intro l;induction l generalizing z with
 |nil=>intro q k h;simp
 |cons v l F=>intro q k h;simp only[List.zipIdx_cons,fB];simp only[bg] at h;have D:z.toArray.setIfInBounds (q+k) v=(z.set (q+k) v).toArray:=ah;rw[D,F (z.set (q+k) v) q (k+1) aD];congr 1;rw[<-kY,List.take_succ_eq_append_getElem aD];simp only[List.getElem_set_self,List.take_set_of_le (aT _),bg];rw[List.drop_set_of_lt af];simp only[eO,e7,dw];congr 4;omega
omit hR in
theorem BV {place:Nat->Option (Nat×Nat)} {cells S:List AV} {H:List Value} {G:List (Nat×AV)} {us:List (Nat×Value)}
  (h:wK place cells G=some S) (Q:j4 μ cells H) (F:G.map (·.1)=us.map (·.1)) (O:b9 μ (G.map (·.2)) (us.map (·.2))) (U:∀p∈G,∀x,p.2≠ .lQ x):
  ∃ws:List Value,Instr.fill place H.toArray us=some ws.toArray/\j4 μ S ws:=by
 induction G generalizing cells H us with
 |nil=>cases us with
  |nil=>simp[wK] at h;subst h;exact⟨H,by simp[Instr.fill],Q⟩
  |cons u us=>simp at F
 |cons p G ih=>cases us with
  |nil=>simp at F
  |cons u us=>
   obtain⟨i,x⟩:=p;obtain⟨i',y⟩:=u;simp only[aR,dM] at F;obtain⟨rfl,F⟩:=F;simp only[aR,b9] at O;obtain⟨u',us',e,hx,O⟩:=O;simp only[dM] at e;obtain⟨rfl,rfl⟩:=e;simp only[wK] at h;split at h
   .cases h
   .rename_i l size R;split at h
    .rename_i B;have K:=LH hx (λz=>U (i,x) ah z);have q:y.cells.size=size:=by
      have:=K.length;simpa[B.1] using this
     have hvl:=Q.length;have D:=((Q.take l).append K).append (Q.drop (l+size));obtain⟨ws,hw,hr⟩:=ih h D F O (λp hp=>U p (by simp[hp]));refine⟨ws,?_,hr⟩;simp only[Instr.fill,R];have V:¬(l+y.cells.size>H.toArray.size):=aD;rw[aq (by simp[q];omega)];rw[<-hw];congr 1;have I:=Gb H y.cells.toList l 0 aD;simp only[qv,zk,q] at I;rw[<-I,<-Array.foldl_toList,Px]
    .cases h
omit hR in
theorem run_places (l:List Field) (q:l.all (λf=>(kL P f.type).isSome)=true):
  (l.mapM (λf=>Functor.map (Prod.mk f.offset) (sizeOf f.type)):Sem (List (Nat×Nat))).run P w= .ok (l.map λf=>(f.offset,(kL P f.type).getD 0)) w:=by
 induction l with
 |nil=>rfl
 |cons f l B=>simp only[gO,aI] at q;obtain⟨n,z⟩:=j9.1 q.1;simp[zl,kn z,z,B q.2]
omit hR in
theorem Ga {t:List TypeId}:∀{F:List Nat} {z B:List AV} {q:List Value},nt P t q=some z->DZ F z=some B->j4 μ B q
 |[],z,B,q,h,l=>by simp only[DZ,aM] at l;subst l;exact AA h
 |k::F,z,B,q,h,l=>by
  simp only[DZ] at l;split at l
  .rename_i s H;obtain⟨K,G,rfl⟩:=bY.1 l;have D:=Ga h G;obtain⟨v,I,e⟩:=Si h H;subst e;refine⟨?_,D.2⟩;have:=RF D.1 I (a:= .qk) (by simp[rep]);exact this
  .cases l
omit hR in
theorem LV {h:Hint} {d:Option Nat} {t:TypeId} {z:List AV} (q:LU P h d t=some z):∃i v,P.info? t=some i/\i.zero=some v/\j4 μ z v.cells.toList:=by
 unfold LU at q;split at q
 .rename_i H G;obtain⟨I,l,B⟩:=dL.1 q;unfold zeroCells at l;split at l
  .rename_i i D;split at l
   .rename_i v F;exact⟨i,v,D,F,Ga l B⟩
   .cases l
  .cases l
 .exact p9 q
theorem Bm {o:Oper} {V:Option (List AV)} {t:TypeId} {l:Array (Nat×Operand)} {U:SV} (G:∀z,V=some z->∃i v,P.info? t=some i/\i.zero=some v/\j4 μ z v.cells.toList) (S:o.op= .build t l) (h:ya P V t l st=some U):nN P μ loc o U a w:=by
 unfold ya at h;split at h
 .rename_i fs hu;split at h
  .rename_i z Q B;split at h
   .rename_i q;obtain⟨q,K⟩:=q;cases D:wK (ot P t) z Q with
    |none=>simp_all
    |some R=>
     simp[D] at h;subst h;obtain⟨i,v,hi,hv,I⟩:=G z rfl;obtain⟨h1,h2⟩:=wz hR B
     obtain⟨ws,hw,F⟩:=BV (us:=l.toList.map λp=>(p.1,a.eval p.2)) D I (by simp_all) (by simp_all[eS,kg]) (λp O x e=>by
      have:=cv.1 q p O
      rw[e] at this;cases this)
     refine e9 (s:=Instr.build t (l.map λp=>(p.1,a.eval p.2))) (by unfold execOp;rw[S]) (v:= .agg ws.toArray) ?_ ?_
     .obtain⟨H⟩:=fs;have Qy:=run_places (w:=w) H K;have hpe:(λx=>Option.map (λf:Field=>(f.offset,(kL P f.type).getD 0)) H[x]?)=ot P t:=by
       funext x;simp only[ot,vD,hu,Fj];cases hx:H[x]? with
       |none=>rfl
       |some fd=>grind[Option.isSome_iff_exists,List.all_eq_true,List.mem_of_getElem?]
      simp_all[Array.toArray_toList,Instr.build,zeroValue,typeInfo,bI]
     .show rep μ (.agg R) _;exact⟨ws,rfl,F.1,F.2⟩
   grind
  grind
 .split at h
  .rename_i z Q s B hs;split at h
   .rename_i q;cases D:wK (λi=>some (i *s,s)) z Q with
    |none=>simp_all
    |some R=>
     simp[D] at h;subst h;obtain⟨i,v,hi,hv,I⟩:=G z rfl;obtain⟨h1,h2⟩:=wz hR B
     obtain⟨ws,hw,F⟩:=BV (us:=l.toList.map λp=>(p.1,a.eval p.2)) D I (by simp_all) (by simp_all[kg]) (λp O x e=>by
      have:=cv.1 q p O
      rw[e] at this;cases this)
     refine e9 (by unfold execOp;rw[S]) (v:= .agg ws.toArray) ?_ ?_
     .simp_all[Instr.build,zeroValue,typeInfo,bI,kn]
     .exact⟨ws,rfl,F.1,F.2⟩
   grind
  grind
 grind
theorem Qr {o:Oper} {B:Hint} {t:TypeId} {l:Array (Nat×Operand)} {q:SV} (D:o.op= .build t l) (h:ya P (LU P B o.dst t) t l st=some q):nN P μ loc o q a w:=
 Bm hR (λz F=>LV F) D h
omit hR in
theorem Kz {l:TypeDesc} {V:TypeId} (Q:P.underlying V=some l) {key:AV} {O:Value} (I:rep μ key O) (z:jB P V key=true):∀{G:List AV} {cM:List MapEntry} {r:Option Nat} (i:Nat),b9 μ G (cM.map (·.key))->pH key G=some r->
  (match r with
  |some j=>∃e,cM[j]? =some e/\Instr.findNow l O cM i=some (some (i+j,e.val))/\∃x,G[j]? =some x/\vF key x=some true
  |none=>Instr.findNow l O cM i=some none):=by
 intro G;induction G with
 |nil=>
  intro cM r i h q;simp only[pH,aM] at q;subst q;rw[b9] at h
  have:cM=[]:=by simpa using h
  subst this;rfl
 |cons x G ih=>intro cM r i h q;rw[b9] at h;obtain⟨u,us,e,D,F⟩:=h;cases cM with
  |nil=>simp at e
  |cons S cM=>
   simp only[aR,dM] at e;obtain⟨rfl,rfl⟩:=e;have same:∀b,vF key x=some b->Instr.sameNow l O S.key=some b:=by
    intro b H;unfold vF at H;split at H
    .rename_i s t;rw[rep] at I D;rw[I,D];simp only[jB,Q] at z;cases l<;>simp at z;simp only[Instr.sameNow,acX];exact H
    .rename_i k s k' t;rw[rep] at I D;rw[I,D];simp only[jB,Q] at z;cases l<;>simp at z;simp only[Instr.sameNow];exact H
    .rename_i s t;rw[rep] at I D;rw[I,D];simp only[jB,Q] at z;cases l<;>simp at z;simp only[Instr.sameNow];exact H
    .cases H
   simp only[pH] at q;split at q
   .rename_i K;injection q with q;subst q;have B:=same _ K;exact⟨S,rfl,by simp only[Instr.findNow,B];simp,x,rfl,K⟩
   .rename_i K;have B:=same _ K;cases R:pH key G with
    |none=>simp[R] at q
    |some r'=>simp[R] at q;subst q;have U:=ih (i+1) F R;cases r' with
     |none=>simp only[zm,Instr.findNow,B];exact U
     |some j=>obtain⟨e,he,q,D⟩:=U;exact⟨e,by simpa using he,by simp only[Instr.findNow,B,q];congr 3;omega,by simpa using D⟩
   .cases q
omit hR in
theorem iQ {B:TypeId} {key:AV} {D:Value} (q:rep μ key D) (l:jB P B key=true) (b:Bool) (w:World):(Instr.checkKey b 10000 B D).run P w= .ok () w:=by
 have key:∀n,(Instr.checkKey b (n+1) B D).run P w= .ok () w:=by
  intro n;unfold jB at l;split at l
  .rename_i z;rw[rep] at q;subst q;simp[Instr.checkKey,bI z]
  .rename_i z;rw[rep] at q;subst q;simp[Instr.checkKey,bI z]
  .rename_i z;rw[rep] at q;subst q;simp[Instr.checkKey,bI z]
  .cases l
 exact key 9999
omit hR in
theorem Uc {z:TypeId} {key:AV} (l:jB P z key=true):∃q,P.underlying z=some q:=by
 unfold jB at l;split at l
 .exact⟨_, ‹_›⟩
 .exact⟨_, ‹_›⟩
 .exact⟨_, ‹_›⟩
 .cases l
omit hR in
theorem oc {B:TypeId} {key:AV} {D:Value} (I:rep μ key D) (l:jB P B key=true) {ks:List AV} {cM:List MapEntry} {r:Option Nat} (h:b9 μ ks (cM.map (·.key))) (H:pH key ks=some r) (w:World):
  match r with
  |some j=>∃e,cM[j]? =some e/\(Instr.findKey B D cM).run P w= .ok (some (j,e.val)) w/\∃x,ks[j]? =some x/\vF key x=some true
  |none=>(Instr.findKey B D cM).run P w= .ok none w:=by
 obtain⟨F,z⟩:=Uc l;have q:=Kz z I l 0 h H;cases r with
 |none=>simp only[] at q⊢;simp[Instr.findKey,bI z,q]
 |some j=>obtain⟨e,G,K,O⟩:=q;exact⟨e,G,by simp[Instr.findKey,bI z,K],O⟩
omit hR in
theorem AB {t:TypeId} {z:AV} (h:pE P t=some z) (w:World):∃v,(zeroValue t).run P w= .ok v w/\rep μ z v:=by
 unfold pE at h;split at h
 .rename_i i G;have l:∀v,i.zero=some v->(zeroValue t).run P w= .ok v w:=λv H=>by simp[zeroValue,typeInfo,G,H]
  split at h
  .rename_i D B;cases q:nt P (vz P 8 t) D.toList with
   |none=>simp[q] at h
   |some I=>simp[q] at h;subst h;have F:=AA (μ:=μ) q;refine⟨_,l _ B,?_⟩;rw[rep];exact⟨D.toList,by simp,F.1,F.2⟩
  .rename_i v _ B;exact⟨v,l v B,vL h⟩
  .cases h
 .cases h
theorem MC {o:Oper} {t:TypeId} {x k:Operand} {ok:Bool} {sv:SV} (ho:o.op= .lookup t x k ok) (h:eU P o st=some sv):nN P μ loc o sv a w:=by
 unfold eU at h;rw[ho] at h;simp only[] at h;split at h
 .rename_i kt et hu;split at h
  .rename_i ks key hx hk;cases l:(ok&&jB P kt key&&(pE P et).isSome) with
   |false=>simp_all
   |true=>
    simp only[l,ai,bY] at h;obtain⟨r,S,rfl⟩:=h;simp only[aI] at l;obtain⟨⟨V,l⟩,hzz⟩:=l;subst V;have q:=fq hR hk;obtain⟨sx,Q,D⟩:=dL.1 hx;unfold FI at D;split at D
    .rename_i id;split at D
     .rename_i k' e' sz' ks' vs' r6;injection D with D;subst D;have I:a.eval x=fE (loc id):=aW hR Q;obtain⟨b,cM,O,us,hl,_,U,_,h1,h2,h3,h4,h5,_⟩:=hR.obs id _ r6;have I:a.eval x= .map (some b):=by rw[I,hl];rfl
      have B:=oc q l h1 S w;have fin:∀y,(Instr.lookup t (a.eval x) (a.eval k) true).run P w= .ok (.tuple #[y, .bool r.isSome]) w->nN P μ loc o (.two .any r.isSome) a w:=λy hr=>e9 (s:=Instr.lookup t (a.eval x) (a.eval k) true) (by unfold execOp;rw[ho]) hr ⟨y,rfl,trivial⟩
      cases r with
      |none=>simp only[] at B;obtain⟨z,R⟩:=j9.1 hzz;obtain⟨zv,H,_⟩:=AB (μ:=μ) R w;refine fin zv ?_;rw[I];simp[Instr.lookup,bI hu,ia U,iQ q l,B,H]
      |some j=>obtain⟨e,he,G,_⟩:=B;refine fin e.val ?_;rw[I];simp[Instr.lookup,bI hu,ia U,iQ q l,G]
     simp_all
    simp_all
  split at h
  .rename_i ks vs key hx hk;cases l:jB P kt key with
   |false=>simp_all
   |true=>
    simp only[l,ai] at h;have q:=fq hR hk;obtain⟨sx,Q,D⟩:=dL.1 hx;have hm:=IJ hR D (aW hR Q);have fin:∀(y:AV) (b:Bool) (K:Value),rep μ y K->rep _ (found ok y b) (if ok=true then .tuple #[K, .bool b] else K):=λy b K hy=>by cases ok with
     |false=>exact hy
     |true=>exact⟨_,rfl,bP hy (bP (by simp[rep]) dg)⟩
    have run:∀(y) (b) (K),rep _ y K->(Instr.lookup t _ _ _).run P w= .ok _ w->nN P _ loc o (.pv _) a w:=λy b K hy hr=>e9 (by unfold execOp;rw[ho]) hr (fin y b _ hy)
    unfold Ul at h;rcases hm with⟨I,rfl,rfl⟩|⟨b,cM,O,I,U,h1,h2⟩
    .simp[pH] at h;cases R:pE P et with
     |none=>simp_all
     |some z=>simp[R] at h;subst h;obtain⟨zv,H,F⟩:=AB R w;refine run z _ _ F ?_;have B:=oc q l (ks:=[]) (cM:=[]) (by rfl) rfl w;rw[I];simp[Instr.lookup,bI hu,iQ q l,B,H]
    .cases S:pH key ks with
     |none=>simp_all
     |some r=>have B:=oc q l h1 S w;cases r with
      |none=>simp[S] at h;cases R:pE P et with
       |none=>simp_all
       |some z=>simp[R] at h;subst h;obtain⟨zv,H,F⟩:=AB R w;refine run z _ _ F ?_;rw[I];simp[Instr.lookup,bI hu,ia U,iQ q l,B,H]
      |some j=>simp[S] at h;cases hg:vs[j]? with
       |none=>simp_all
       |some y=>
        simp[hg] at h;subst h;obtain⟨e,he,G,_⟩:=B;obtain⟨K,Pk,hyr⟩:=sg h2 hg;have :=by
         have he' :=by simpa using he
         simp[he'] at Pk;exact Pk.symm
        subst this;refine run y _ _ hyr ?_;rw[I];simp[Instr.lookup,bI hu,ia U,iQ q l,G]
  grind
 grind
theorem MD {o:Oper} {t:TypeId} {x H:Operand} {lo D:Option Operand} {I:SV} (V:o.op= .slice t x lo D (some H)) (h:eU P o st=some I):nN P μ loc o I a w:=by
 unfold eU at h;rw[V] at h;simp only[VD] at h;split at h
 rotate_left
 .cases h
 rename_i D;split at h
 .rename_i id hx;split at h
  .rename_i Q sz xs e s ka va kb vb q hs R U;split at h
   .injection h with h;subst h;obtain⟨hu,inf,G,hsz⟩:=gr hs;have hxv :=(aW hR hx).trans (iP (hR.obs _ _ q));have B:=aW hR R;have F:=aW hR U;simp[gG,rep] at B F;obtain⟨vs,z,hrc,_⟩:=hR.obs _ _ q;obtain⟨A,c,l,S,hA⟩:∃A c,loc id= .slice A xs.length c/\xs.length<=c/\(A.map (·.add (0 *s))=A):=by
     rcases z.2 with⟨e1,Q⟩|⟨g,K,O,e1,h2,h3,h4⟩
     .simp_all
     grind[add_zero']
    refine e9 (s:=Instr.sliceAt t (a.eval x) (none) (some (a.eval D)) (some (a.eval H))) (by unfold execOp;simp_all) ?_ ⟨A,_,c,l,rfl⟩;simp_all[Instr.sliceAt,Instr.slice,bI,Instr.sliceBounds,Instr.sliceBound,asIntOf,sizeOf,typeInfo]
   grind
  grind
 grind
theorem vc {o:Oper} {B:SV} (h:eU P o st=some B):nN P μ loc o B a w:=by
 have l:=h;unfold eU at l;split at l
 .grind[BZ]
 .rename_i x q;exact BZ hR (.inr q) l
 .grind[TA]
 .grind[XO]
 .grind[aad]
 .grind[KB]
 .grind[FE]
 .grind[Io]
 .grind[Gq]
 .grind[Qt]
 .grind[Gs]
 .grind[Qu]
 .grind[Tz]
 .grind[Qv]
 .grind[MD]
 .grind[KC]
 .grind[MC]
 .rename_i q;exact Bm hR (λz D=>p9 D) q af
 simp_all
end
end
