/- THE ABSTRACT MACHINE. -/
import Derived.Test.YthphfjcnkinkpaaGreatDoorAmRel
import Derived.Laws.Strings
import Derived.Laws.StructEq
set_option linter.all false
namespace Go.AM
section
variable {P:Program} {μ:Mu} {loc:Nat->Value} {w:World}
def xH {t:TypeId} {v:Value} {x:AV} (h:ofConst P t v=some x):rep μ x v:=by
 unfold ofConst at h;split at h
 .grind[rep]
 .grind[rep]
 .grind[rep]
 .cases l:isSlice P t with
  |none=>simp_all
  |some y=>simp[l] at h;subst h;exact⟨_,0,rfl,aR _,cS _, .inl rfl⟩
 .grind[rep]
 .grind[rep,Value.oneCell',Value.cells]
 .split at h
  .injection h with h;subst h;rw[rep];simp
  grind
 grind
def rG {t:TypeId} {b:Bool} (h:Ev P t=some b) (w:World):(isAgg t).run P w= .ok b w:=by
 unfold Ev at h;unfold isAgg;split at h
 .simp_all[bR]
 .simp_all[bR]
 .rename_i d q z l;injection h with h;subst h;simp only[jm,bR l,kJ];rfl
 grind
def kQ {t:TypeId} {n:Nat} (h:kZ P t=some n) (w:World):(sizeOf t).run P w= .ok n w:=by unfold kZ at h;cases l:P.info? t with
 |none=>simp_all
 |some i=>simp_all[sizeOf,typeInfo]
def fS {t:TypeId} {e:TypeId} {s:Nat} (h:isSlice P t=some (e,s)):P.underlying t=some (.slice e)/\∃i,P.info? e=some i/\i.size=s:=by
 unfold isSlice at h;split at h
 .rename_i l z;cases q:P.info? l with
  |none=>simp_all
  |some i=>simp_all
 grind
theorem add_lit (b l j:Nat):(⟨b,l,none⟩:Addr).add j=⟨b,l+j,none⟩:=by simp_all[Addr.add]
theorem add_zero' (p:Addr):p.add 0=p:=by rfl
def sG {t:TypeId} {ad:Addr} {D:List AV} {z:List Value} {x:AV} (q:iO P t D=some x) (B:lD μ D z)
  (l:∀j v,z[j]? =some v->w.cell? (ad.add j)=some v):∃v,(loadVar t ad).run P w= .ok v w/\rep μ x v:=by
 unfold iO at q;split at q
 .rename_i n I O;split at q
  .injection q with q;subst q;have K:(z.take n).length=n:=by rw[fh,B.length];omega
   have G:=Bv (P:=P) w _ (z.take n) (λj v F=>l j v (by grind));refine⟨.agg (z.take n).toArray,?_,?_⟩
   .simp_all[loadVar,rG,kQ]
   .exact⟨_,rfl,(B.take n).1,(B.take n).2⟩
  simp_all
 .obtain⟨v,F,G⟩:=tu B.1 q;have H:=l 0 v F;simp_all[Addr.add,loadVar,rG]
 simp_all
def Lv {t:TypeId} {D:List AV} {B:List Value} {x:AV} (q:Nat) (l:iO P t (D.drop q)=some x) (z:lD μ D B):
  ∃v,(part t B.toArray q).run P w= .ok v w/\rep μ x v:=by
 unfold iO at l;split at l
 .rename_i n F G;split at l
  .injection l with l;subst l;refine⟨.agg ((B.drop q).take n).toArray,?_,?_⟩
   .simp[part,rG F,kQ G]
   .exact⟨_,rfl,((z.drop _).take n).1,((z.drop _).take n).2⟩
  simp_all
 .obtain⟨v,I,H⟩:=tu (z.drop _).1 l;simp_all[part,rG]
 simp_all
theorem NU {xs:List SV} {l:List Value} (h:gT μ loc xs l) {i:Nat} {x:SV} (q:xs[i]? =some x):∃v,l[i]? =some v/\fQ μ loc x v:=by induction xs generalizing l i with
 |nil=>simp at q
 |cons y xs D=>obtain⟨u,F,rfl,z,B⟩:=h;grind
theorem ql {xs:List SV} {l:List Value} (h:gT μ loc xs l):l.length=xs.length:=by induction xs generalizing l with
 |nil=>exact aP _ h
 |cons x xs z=>obtain⟨u,B,rfl,_,q⟩:=h;simp_all
theorem Eg {xs:List SV} {l:List Value} (h:gT μ loc xs l) (n:Nat):gT μ loc (xs.drop n) (l.drop n):=by induction n generalizing xs l with
 |zero=>assumption
 |succ n z=>cases xs with
  |nil=>simp_all[gT]
  |cons x xs=>obtain⟨u,B,rfl,_,q⟩:=h;simp_all
theorem Eh {xs:List SV} {l:List Value} (h:gT μ loc xs l) (n:Nat):gT μ loc (xs.take n) (l.take n):=by induction n generalizing xs l with
 |zero=>rfl
 |succ n B=>cases xs with
  |nil=>simp_all[gT]
  |cons x xs=>obtain⟨u,D,rfl,q,z⟩:=h;exact⟨u,_,by simp,q,B z⟩
theorem mc {xs z:List SV} {l q:List Value} (h:gT μ loc xs l) (k:gT μ loc z q):gT μ loc (xs++z) (l++q):=by induction xs generalizing l with
 |nil=>have:l=[]:=h;simp_all
 |cons x xs F=>obtain⟨u,G,rfl,B,D⟩:=h;exact⟨u,_,by simp,B,F D⟩
def sD {l:List AV} {q:List Value} (h:cN μ l q):gT μ loc (l.map .pv) q:=by induction l generalizing q with
 |nil=>assumption
 |cons x xs D=>obtain⟨u,F,rfl,z,B⟩:=h;exact⟨u,F,rfl,z,D B⟩
def RX {xs:List SV} {q:List oF} {B:List Value} (h:xu xs=some q) (k:gT μ loc xs B):kH μ loc q B:=by induction xs generalizing q B with
 |nil=>simp[xu,bg] at h;subst h;exact k
 |cons x xs G=>obtain⟨u,H,rfl,D,F⟩:=k;cases x with
  |pv v=>simp[xu,cL] at h;obtain⟨z,l,rfl⟩:=h;exact⟨u,H,rfl,D,G l F⟩
  |row id=>simp[xu,cL] at h;obtain⟨z,l,rfl⟩:=h;exact⟨u,H,rfl,D,G l F⟩
  |_=>simp[xu] at h
def Hw {xs:List SV} {l:List AV} {q:List Value} (h:mG xs=some l) (k:gT μ loc xs q):cN μ l q:=by induction xs generalizing q l with
 |nil=>simp[mG] at h;subst h;assumption
 |cons x xs F=>cases x with
  |pv v=>simp[mG] at h;cases z:mG xs with
   |none=>simp_all
   |some G=>simp[z] at h;subst h;obtain⟨u,H,rfl,B,D⟩:=k;exact cQ B (F z D)
  |_=>simp[mG] at h
theorem cZ {q:Nat} {xs:List (List AV)} {l:List Value} (h:cV μ q xs l):l.length=xs.length *q:=by induction xs generalizing l with
 |nil=>have:l=[]:=h;simp_all
 |cons x xs D=>obtain⟨F,ws,rfl,_,z,B⟩:=h;grind
def P9 {q:Nat} {xs:List (List AV)} {z:List Value} (h:cV μ q xs z) {i:Nat} {x:List AV} (B:xs[i]? =some x):
  ∃l:List Value,lD μ x l/\l.length=q/\∀j u,l[j]? =some u->z[i *q+j]? =some u:=by
 induction xs generalizing z i with
 |nil=>simp at B
 |cons y xs H=>obtain⟨l,ws,rfl,D,F,G⟩:=h;cases i with
  |zero=>grind
  |succ i=>grind
end
section
variable {P:Program} {N:Nat} {w0:World} {μ0:Mu} {L:s7} {μ:Mu} {loc:Nat->Value} {st:St} {a:Act} {w:World}
theorem aW (hR:Rel N w0 μ0 L μ loc st a w) {t:TypeId} {x:Operand} {q:SV} (h:bI P t st x=some q):fQ μ loc q (a.eval x):=by cases x with
 |tmp i=>obtain⟨v,B,z⟩:=hR.env i _ h;simp_all[Act.eval]
 |const v=>simp[bI] at h;cases l:ofConst P t v with
  |none=>simp_all
  |some y=>simp[l] at h;subst h;exact xH l
 |func f=>simp[bI] at h;subst h;exact⟨[],rfl,dR⟩
 |global g=>simp[bI] at h
theorem gI (hR:Rel N w0 μ0 L μ loc st a w) {t:TypeId} {x:Operand} {v:AV} (h:(bI P t st x).bind kM =some v):rep μ v (a.eval x):=by cases l:bI P t st x with
 |none=>simp_all
 |some q=>have:=aW hR l;cases q<;>simp[l,kM] at h;subst h;exact this
def Sx (op:BinOp) (t:TypeId) (X Y:Operand) (k k':IntKind) (n m:Int) (w:World):(eqGuard op t X Y (.int k n) (.int k' m)).run P w= .ok () w:=by unfold eqGuard;simp
def Sy (op:BinOp) (t:TypeId) (X Y:Operand) (x y:ByteArray) (w:World):(eqGuard op t X Y (.string x) (.string y)).run P w= .ok () w:=by unfold eqGuard;simp
def ON (op:BinOp) (t:TypeId) (X Y:Operand) (x y:Bool) (w:World):(eqGuard op t X Y (.bool x) (.bool y)).run P w= .ok () w:=by unfold eqGuard;simp
def run_equalIn_bool (d:Nat) {t:TypeId} (l:P.underlying t=some .bool) (x y:Bool) (w:World):(Op.equalIn (d+1) t (.bool x) (.bool y)).run P w= .ok (x==y) w:=by simp[Op.equalIn,bR l]
def aeg (a b:List UInt8):((⟨a.toArray⟩:ByteArray)==⟨b.toArray⟩)=(a==b):=by
 show(a.toArray==b.toArray)=(a==b)
 simp
def ZS {t:TypeId} {a:AV} (h:om P t a=true):Ev P t=some false:=by unfold om at h;grind[Ev]
def Hj {xs Q:List AV} {vs V:List Value} (S:lD μ xs vs) (U:lD μ Q V) (d:Nat):∀{F:List Field} {b:Bool},M1 P xs Q F=some b->(Op.eqFields (d+1) vs.toArray V.toArray F).run P w= .ok b w
 |[],b=>λh=>by simp_all[M1,Op.eqFields]
 |f::F,b=>λh=>by
  unfold M1 at h;split at h
  .rename_i R z G H;cases I:(!(f.name== "_")&&om P f.type R&&om P f.type z&&(kZ P f.type).isSome) with
   |false=>simp_all
   |true=>
    simp[I] at h;simp at I;obtain⟨⟨⟨hn,l⟩,hky⟩,O⟩:=I;obtain⟨n,D⟩:=qX.1 O;have B:=ZS l;have t1:iO P f.type (xs.drop f.offset)=some R:=by unfold iO;rw[B,D];simpa using G
    have t2:iO P f.type (Q.drop f.offset)=some z:=by unfold iO;rw[B,D];simpa using H
    obtain⟨v,hv,rv⟩:=Lv (w:=w) _ t1 S;obtain⟨u,hu,ru⟩:=Lv (w:=w) _ t2 U;split at h
    .rename_i r q K hq;injection h with h;subst h;have ih:=Hj S U d hq;have he:(Op.equalIn (d+1) f.type v u).run P w= .ok r w:=by
      unfold om at l;split at l
      .cases z<;>simp[xC] at K;simp_all[rep,run_equalIn_string]
      .cases z<;>simp[xC] at K;simp_all[rep,run_equalIn_int]
      .cases z<;>simp[xC] at K;simp_all[rep,run_equalIn_bool']
      .cases l
     simp[Op.eqFields,aB hn,jm,hv,hu,he,kJ,Sem.run_ite,ih];cases r<;>simp
    grind
  grind
def On {op:BinOp} {t:TypeId} {xs F:List AV} {r:AV} {X Y:Operand} {u v:Value} (h:US P op t xs F=some r) (Q:rep μ (.agg xs) u) (R:rep μ (.agg F) v):
  ∃z,(do eqGuard op t X Y u v;binOp op t u v).run P w= .ok z w/\rep μ r z:=by
 obtain⟨vs,rfl,H,I⟩:=Q;obtain⟨V,rfl,S,U⟩:=R;unfold US at h;split at h
 .rename_i G D;cases l:(!(P.stoodInHeld t)&& !(P.eqGuardType P.depth t)) with
  |false=>simp_all
  |true=>
   simp[l] at h;simp at l;have B:P.fieldsOf t=G:=by unfold Program.fieldsOf;rw[D]
   have q:P.underlying t=some (.struct (P.fieldsOf t)):=by rw[B];exact D
   have O:∀b,M1 P _ _ _=some b->(Op.equalIn 10000 t _ _).run P w= .ok b w:=λb K=>by rw[run_equalIn_struct w _ t _ _ q l.1,B];exact Hj ⟨H,I⟩ ⟨S,U⟩ _ K
   simp[jm,run_eqGuard_agg w _ t X Y _ _ l.2];split at h
   .injection h with h;subst h;simp_all[binOp,Op.equal,Op.maxDepth,rep]
   .injection h with h;subst h;simp_all[binOp,Op.equal,Op.maxDepth,rep]
   grind
 grind
def Za {op:BinOp} {t:TypeId} {x y r:AV} {X Y:Operand} {u v:Value} (h:bin P op t x y=some r) (l:rep μ x u) (q:rep μ y v):
  ∃z,(do eqGuard op t X Y u v;binOp op t u v).run P w= .ok z w/\rep μ r z:=by
 cases x with
 |int k n=>cases y with
  |int k' m=>
   rw[rep] at l q;subst l;subst q;simp only[jm,Sx,kJ];unfold bin at h;cases op
   case shl=>
    simp only[Cr] at h;split at h
    .cases h
    .injection h with h;subst h;rename_i B;exact⟨_,by simp[binOp,Op.shift,B];rfl,by simp[rep]⟩
   case shr=>
    simp only[Cr] at h;split at h
    .cases h
    .injection h with h;subst h;rename_i B;exact⟨_,by simp[binOp,Op.shift,B];rfl,by simp[rep]⟩
   case quo=>
    simp only[] at h;split at h
    .rename_i e;subst e;simp only[GB] at h;split at h
     .cases h
     .injection h with h;subst h;simp_all[binOp,Op.intDiv,rep]
    grind
   case rem=>
    simp only[] at h;split at h
    .rename_i e;subst e;simp only[GB] at h;split at h
     .cases h
     .injection h with h;subst h;simp_all[binOp,Op.intDiv,rep]
    grind
   all_goals
    simp only[] at h;split at h
    .rename_i e;subst e;simp only[GB,bg] at h;subst h;simp_all[binOp,Op.intArith,Op.intBits,Op.intCmp,rep]
    grind
  |_=>simp[bin] at h
 |str s=>cases y with
  |str D=>
   rw[rep] at l q;subst l;subst q;simp only[jm,Sy,kJ];unfold bin at h;simp only[WR] at h;cases op
   case add=>
    simp only[] at h;split at h
    .injection h with h;subst h;refine⟨.string ⟨(s++D).toArray⟩,?_,by simp[rep]⟩;have B:¬((((⟨s.toArray⟩:ByteArray).size+(⟨D.toArray⟩:ByteArray).size))>IntKind.i64.max):=by
      simp[ByteArray.size];omega
     have e:(⟨s.toArray⟩:ByteArray)++⟨D.toArray⟩=⟨_⟩:=rfl;simp_all[binOp,Op.stringOp]
    grind
   all_goals first
    |grind
    |(simp at h;subst h;simp_all[binOp,Op.stringOp,rep])
  |_=>simp[bin] at h
 |bool b=>cases y with
  |bool c=>
   subst l;subst q;simp[jm,ON];unfold bin at h;simp at h;split at h
   .injection h with h;subst h;simp_all[binOp,Op.equal,Op.maxDepth,run_equalIn_bool,rep]
   .injection h with h;subst h;simp_all[binOp,Op.equal,Op.maxDepth,run_equalIn_bool,rep]
   grind
  |_=>simp[bin] at h
 |agg xs=>cases y with
  |agg F=>exact On (by assumption) l q
  |_=>simp[bin] at h
 |_=>simp[bin] at h
def aeq {op:UnOp} {x r:AV} {u:Value} (h:un op x=some r) (l:rep μ x u):∃z,(Op.unary op u).run P w= .ok z w/\rep μ r z:=by
 unfold un at h;split at h
 .injection h with h;subst h;simp_all[rep,Op.unary,Op.intArith]
 .injection h with h;subst h;simp_all[rep,Op.unary]
 grind
def jC {B:Nat} {id:Nat} {e:TypeId} {D:Nat} {xs:List (List AV)} (h:nU B L μ loc w id (.row e D xs)):fW (loc id)=loc id:=by obtain⟨F,l,_⟩:=h;rcases l.2 with⟨e1,_⟩|⟨g,q,z,e1,_⟩<;>rw[e1]<;>rfl
def Xf {D:Nat} {id:Nat} {k e:TypeId} {B q:List AV} (h:nU D L μ loc w id (.mp k e B q)):fW (loc id)=loc id:=by obtain⟨b,eL,l,z,_⟩:=h;rw[z];rfl
def ux {q b:Nat} {xs:List (List AV)} {l:Nat} (h:lE μ q b xs l):∃z,cV μ q xs z/\∀j u,z[j]? =some u->μ b (l+j)=some u:=by induction xs generalizing l with
 |nil=>exact⟨[],rfl,ai⟩
 |cons x xs H=>obtain⟨⟨K,B,D,F,O⟩,G⟩:=h;obtain⟨ws,I,R⟩:=H G;refine⟨_,⟨K,ws,rfl,⟨B,D⟩,F,I⟩,λj u Q=> ?_⟩;grind
def kI {B:Nat} {xs:List (List AV)} {q:List Value} (h:cV μ B xs q):∀u∈q,u.oneCell'=true:=by induction xs generalizing q with
 |nil=>have:q=[]:=h;simp_all
 |cons x xs G=>
  obtain⟨a,b,rfl,z,D,F⟩:=h;intro u l;rcases bu.1 l with l|l
  .exact z.2 u l
  grind
def kN {l:Nat} {xs:List (List AV)} {q:List Value} (h:cV μ l xs q) (n:Nat):cV μ l (xs.take n) (q.take (n *l)):=by induction n generalizing xs q with
 |zero=>simp[cV]
 |succ n F=>cases xs with
  |nil=>simp_all[cV]
  |cons x xs=>obtain⟨G,ws,rfl,z,B,D⟩:=h;refine⟨G,_,?_,z,B,F D⟩;grind[Nat.add_mul]
def DE {l:Nat} {xs:List (List AV)} {q:List Value} (h:cV μ l xs q) (n:Nat):cV μ l (xs.drop n) (q.drop (n *l)):=by induction n generalizing xs q with
 |zero=>simp_all
 |succ n G=>cases xs with
  |nil=>simp_all[cV]
  |cons x xs=>obtain⟨z,ws,rfl,B,D,F⟩:=h;rw[show(n+1) *l=z.length+n *l from by grind,Bw];simp_all
theorem tM (hR:Rel N w0 μ0 L μ loc st a w) {v:SV} {u:Value} {sz:Nat} {xs:List (List AV)} (q:elems st v=some (sz,xs)) (R:fQ μ loc v u):
  ∃A c,u= .slice A xs.length c/\∃D,cV μ sz xs D/\(xs.length=0\/∃ad:Addr,A=some ad/\∀j x,D[j]? =some x->w.cell? (ad.add j)=some x):=by
 cases v with
 |pv v=>cases v with
  |dD V I=>
   obtain⟨rfl,rfl⟩:=q;obtain⟨A,c,e1,_,_,h3⟩:=R;rcases h3 with h0|⟨b,off,rfl,H⟩
   .have :=lS h0;subst this;exact⟨A,c,e1,[],rfl, .inl rfl⟩
   .obtain⟨D,k1,k2⟩:=ux H;exact⟨_,c,e1,D,k1, .inr ⟨_,rfl,λj u hu=>by rw[add_lit];exact za (hR.yz _ _ _ (k2 j u hu)) (kI k1 u (aV hu))⟩⟩
  |_=>simp[elems] at q
 |row S=>
  simp[elems] at q;split at q
  .rename_i e' V I z;obtain⟨rfl,rfl⟩:=q;have G:=hR.obs _ _ z;have hb:=jC G;obtain⟨D,l,B,_⟩:=G;have VG:u=fW _:=R;rcases l.2 with⟨e1,e2⟩|⟨g,F,K,e1,_⟩
   .grind
   .exact⟨_,F,by simp_all,D,B, .inr ⟨_,rfl,l.cells (g:=g) (by rw[e1];rfl)⟩⟩
  simp_all
 |sub S s2 U O=>
  simp[elems] at q;split at q
  .rename_i e' V I z;cases hq:Nat.beq s2 V with
   |false=>simp_all
   |true=>
   rw[hq] at q;obtain⟨rfl,rfl⟩:=q;obtain⟨D,l,B,_⟩:=hR.obs _ _ z;obtain⟨A,n,c,A',c',h1,h2,h3,h4,h5,h6,h7⟩:=R;have hn:n=I.length:=by rcases l.2 with⟨e1,e2⟩|⟨g,F,K,e1,_⟩<;>simp_all
   have hl:((I.take O).drop U).length=O-U:=aH;refine⟨A',c',by simp_all,_,DE (kN B _) _,?_⟩;by_cases Q:U<O
   .obtain⟨g,eA,eA'⟩:=h7 Q;have hcl:=l.cells (by rw[h1,eA];rfl);simp_all[oQ,add_lit]
   omega
  simp_all
 |_=>simp[elems] at q
def HB (hR:Rel N w0 μ0 L μ loc st a w) {v:SV} {u:Value} {sz:Nat} {xs:List (List AV)} (h:elems st v=some (sz,xs)) (l:fQ μ loc v u):
  ∃A c,u= .slice A xs.length c:=by
 grind[tM]
def Tr (hR:Rel N w0 μ0 L μ loc st a w) {v:SV} {u:Value} {n:Nat} (h:lenOf st v=some n) (z:fQ μ loc v u):∃A c,u= .slice A n c:=by
 unfold lenOf at h;split at h
 .obtain⟨A,c,e⟩:=HB hR rfl z;simp_all
 .split at h
  .rename_i e s xs l;injection h with h;subst h;exact HB hR (sz:=s) (by simp[elems,l]) z
  .rename_i e s k H K xs R l;obtain⟨m,O,Q,G,_,q,_⟩:=hR.obs _ _ l;have e1:u=m:=(z).trans (by rw[G];rfl);rcases q.2 with⟨F,I⟩|⟨g,B,D,F,_⟩
   .simp_all
   simp_all
  grind
 .injection h with h;subst h;obtain⟨b,_,e⟩:=z;exact⟨_,_,e⟩
 grind
theorem oA {r:Nat} {q:Array MapEntry} {l:Nat} (h:w.heap[r]? =some (.map q l)):(getObj r).run P w= .ok (.map q l) w:=by simp[getObj,Sem.run,h]
def KK (hR:Rel N w0 μ0 L μ loc st a w) {v:SV} {u:Value} {q z:List AV} (h:maps st v=some (q,z)) (D:fQ μ loc v u):
  (u= .map none/\q=[]/\z=[])\/∃b eL l,u= .map (some b)/\w.heap[b]? =some (.map eL l)/\cN μ q (eL.toList.map (·.key))/\cN μ z (eL.toList.map (·.val)):=by
 unfold maps at h;split at h
 .rcases D with D|⟨b,kv,U,rfl,F,G,H⟩
  .simp_all
  .obtain⟨eL,l,I,rfl,rfl⟩:=see_map (hR.yz _ _ _ H);simp_all
 .rename_i id;cases B:st.ob id with
  |none=>simp_all
  |some o=>cases o with
   |box t R=>simp_all
   |row e s Q=>simp_all
   |rn e s k S s' xs Q=>simp_all
   |lp s=>simp_all
   |mp k e K O=>have V:=Xf (hR.obs _ _ B);obtain⟨b,eL,l,hl,_,I,_,F,G,_⟩:=hR.obs _ _ B;simp_all[fQ]
 grind
def oO (P:Program) (μ:Mu) (loc:Nat->Value) (o:Oper) (l:SV) (a:Act) (w:World):Prop:=
 ∃v,(execOp a.eval o).run P w= .ok (.value v) w/\fQ μ loc l v
def eM {o:Oper} {s:Sem Value} {l:SV} (z:execOp a.eval o=(do pure (.value (<-s)))) {v:Value} (B:s.run P w= .ok v w) (q:fQ μ loc l v):oO P μ loc o l a w:=
 ⟨v,by simp_all,q⟩
section
variable (hR:Rel N w0 μ0 L μ loc st a w)
include hR
theorem D1 {o:Oper} {x:Operand} {q:SV} (l:o.op= .move x\/o.op= .assign x) (h:bI P o.type st x=some q):oO P μ loc o q a w:=by refine⟨_,?_,aW hR h⟩;rcases l with l|l<;> · unfold execOp;simp_all
theorem Vy {o:Oper} {c x y:Operand} {q:SV} (B:o.op= .pick c x y) (h:fB P o st=some q):oO P μ loc o q a w:=by
 unfold fB at h;rw[B] at h;simp at h;split at h
 .rename_i t z;have l:=aW hR z;simp[fQ,rep] at l;cases t with
  |true=>refine⟨_,?_,aW hR h⟩;simp_all[execOp,asBool]
  |false=>refine⟨_,?_,aW hR h⟩;simp_all[execOp,asBool]
 grind
theorem ZD {o:Oper} {op:BinOp} {t I:TypeId} {x y:Operand} {B:SV} (q:o.op= .binOp op t x y I) (h:fB P o st=some B):oO P μ loc o B a w:=by
 unfold fB at h;rw[q] at h;simp at h;split at h
 .rename_i u v F G;cases l:bin P op t u v with
  |none=>simp_all
  |some r=>simp[l] at h;subst h;obtain⟨z,H,D⟩:=Za l (gI hR F) (gI hR G);exact eM (by unfold execOp;rw[q]) H D
 grind
theorem abN {o:Oper} {op:UnOp} {t:TypeId} {x:Operand} {B:SV} (q:o.op= .unOp op t x) (h:fB P o st=some B):oO P μ loc o B a w:=by
 unfold fB at h;rw[q] at h;simp at h;split at h
 .rename_i u F;cases l:un op u with
  |none=>simp_all
  |some r=>simp[l] at h;subst h;obtain⟨z,G,D⟩:=aeq l (gI hR F);exact eM (by unfold execOp;rw[q]) G D
 grind
omit hR in
theorem R2 {xs:List (List AV)} {G:List UInt8} {F:List Value} (h:bytesOf xs=some G) (z:cV μ 1 xs F):∃D:List Int,F=D.map (Value.int .u8)/\G=D.map λn=>UInt8.ofNat n.toNat:=by induction xs generalizing G F with
 |nil=>simp only[bytesOf,bg] at h;subst h;have:F=[]:=z;subst this;exact⟨[],rfl,rfl⟩
 |cons x xs U=>
  obtain⟨u1,ws,rfl,R,V,S⟩:=z;unfold bytesOf at h;split at h
  .rename_i H;cases H
  .rename_i n l H;injection H with e1 Q;subst e1;subst Q;cases I:bytesOf xs with
   |none=>simp[I] at h
   |some O=>simp[I] at h;subst h;obtain⟨D,rfl,rfl⟩:=U I S;have q:=R.1;rw[cN] at q;obtain⟨y,ys,rfl,K,B⟩:=q;rw[cN] at B;subst B;rw[rep] at K;subst K;exact⟨n::D,by simp,ai⟩
  .cases h
omit hR in
theorem foldl_push (l:List Int):l.foldl (λ(r:ByteArray) n=>r.push (UInt8.ofNat n.toNat)) ByteArray.empty=⟨(l.map λn=>UInt8.ofNat n.toNat).toArray⟩:=by
 have key:∀(l:List Int) (s:ByteArray),l.foldl (λ(r:ByteArray) n=>r.push (UInt8.ofNat n.toNat)) s=⟨s.data++(l.map λn=>UInt8.ofNat n.toNat).toArray⟩:=by intro l;induction l with
  |nil=>intro s;simp
  |cons n l q=>intro s;simp only[gb,q];simp[ByteArray.push]
 rw[key];simp
theorem ME {o:Oper} {t S:TypeId} {x:Operand} {sv:SV} (G:o.op= .convert t S x) (h:fB P o st=some sv):oO P μ loc o sv a w:=by
 unfold fB at h;rw[G] at h;simp only[] at h;split at h
 .rename_i e hu hd;split at h
  .rename_i xs he hsz F;cases hb:bytesOf xs with
   |none=>simp_all
   |some bs=>
    simp[hb] at h;subst h;obtain⟨sx,K,H⟩:=dy.1 F;obtain⟨A,c,R,U,B,D⟩:=tM hR H (aW hR K);obtain⟨ns,z,l⟩:=R2 hb B;have O:=cZ B;refine eM (s:=convert t S (a.eval x)) (by unfold execOp;rw[G]) (v:= .string ⟨bs.toArray⟩) ?_ (by rfl);have e1:∀v:Value,(∃A n c,v= .slice A n c)->(convert t S v).run P w=(Conv.bytesToString v).run P w:=by rintro v ⟨A,n,c,rfl⟩;simp_all[convert,bR]
    rw[R,e1 _ ⟨_,_,_,rfl⟩];rcases D with h0|⟨V,rfl,hc⟩
    .have:U=[]:=lS af
     subst this;have I:ns=[]:=by cases ns with
      |nil=>rfl
      |cons=>simp at z
     subst I;have l:bs=[]:=l;subst l;rw[h0];cases A with
     |none=>rfl
     |some V=>rfl
    .have hl:=Bv (P:=P) w V U hc;have q:U.length=xs.length:=by rw[O];simp
     rw[q,z] at hl;rw[run_bytesToString w _ _ c _ hl,l,foldl_push]
  grind
 .split at h
  .rename_i k' n F;injection h with h;subst h;have Q:=gI hR F;rw[rep] at Q;refine eM (by unfold execOp;rw[G]) ?_ (by rfl);simp_all[convert,bR,Conv.intToInt]
  grind
 .split at h
  .rename_i s F;injection h with h;subst h;have Q:=gI hR F;rw[rep] at Q;refine eM (by unfold execOp;rw[G]) ?_ (by rfl);simp_all[convert,bR]
  grind
 grind
theorem Ba {b:Bool} {B r:AV} {l:List Operand} {u:Value} (h:mP P st b B l=some r) (I:rep μ B u):
  ∃v,((l.map a.eval).foldlM (if b then Builtin.max2 else Builtin.min2) u).run P w= .ok v w/\rep μ r v:=by
 induction l generalizing B u with
 |nil=>simp[mP] at h;simp_all
 |cons x l R=>
  simp[mP] at h;split at h
  .rename_i v O;split at h
   .rename_i U q;have K:=gI hR O;unfold adF at q;split at q
    .grind[rep,Builtin.max2,Builtin.min2]
    .rename_i D F;injection q with q;subst q;rw[rep] at I K;subst I;obtain⟨z,Q,G⟩:=R h (u:= .string ⟨(bif b then(bif !(Op.bytesLess D F) then D else F) else(bif Op.bytesLess D F||D==F then D else F)).toArray⟩) (by simp[rep]);refine⟨z,?_,G⟩;rw[<-Q];simp[bH,K];cases b with
     |true=>cases H:Op.bytesLess _ _<;>simp[Builtin.max2,Op.stringOp,asBool,H]
     |false=>cases H:Op.bytesLess _ _<;>cases S:D==F<;>simp_all[Builtin.min2,Op.stringOp,asBool]
    simp_all
   grind
  grind
theorem HO {o:Oper} {c:Call} {V:SV} (S:o.op= .call c) (h:Bb P c st=some V):oO P μ loc o V a w:=by
 obtain⟨O,⟨args⟩,⟨F⟩⟩:=c;unfold Bb at h;simp only[] at h;split at h
 .rename_i x;split at h
  .rename_i t;split at h
   .rename_i s G B;injection h with h;subst h;have q:=aW hR B;simp only[fQ,rep] at q;refine⟨.int .i64 s.length,?_,by rfl⟩;have R:(⟨s.toArray⟩:ByteArray).size=s.length:=rfl;unfold execOp;rw[S];simp[resolve,invoke,builtin,Builtin.len_,bR G,q,goInt,R]
   .rename_i e G B;injection h with h;subst h;have q:=aW hR B;simp only[fQ,rep] at q;refine⟨.int .i64 0,?_,by rfl⟩;simp_all[execOp,resolve,invoke,builtin,Builtin.len_,bR,goInt]
   .rename_i e id sz lo hi G B;injection h with h;subst h;obtain⟨A,n,c,A',c',_,hlo,hhi,_,q,_⟩:=aW hR B;refine⟨.int .i64 ((hi-lo:Nat):Int),?_,by rfl⟩;simp_all[execOp,resolve,invoke,builtin,Builtin.len_,bR,goInt]
   .rename_i e v _ _ G B;cases H:lenOf st v with
    |none=>simp_all
    |some y=>simp[H] at h;subst h;obtain⟨A,c,q⟩:=Tr hR H (aW hR B);refine⟨.int .i64 y,?_,by rfl⟩;simp_all[execOp,resolve,invoke,builtin,Builtin.len_,bR,goInt]
   .rename_i kt et v G B;cases H:maps st v with
    |none=>simp_all
    |some y=>
     obtain⟨U,vs⟩:=y;simp[H] at h;subst h;refine⟨.int .i64 U.length,?_,by rfl⟩;unfold execOp;rw[S];rcases KK hR H (aW hR B) with⟨q,rfl,rfl⟩|⟨b,eL,Q,q,hh,h1,h2⟩
     .simp_all[resolve,invoke,builtin,Builtin.len_,bR,goInt]
     .have I:eL.size=U.length:=by simpa using tE h1
      simp[resolve,invoke,builtin,Builtin.len_,bR G,q,goInt,oA hh,I]
   grind
  grind
 .rename_i x l;split at h
  .rename_i v q;cases K:mP P st true v l with
   |none=>simp_all
   |some r=>simp[K] at h;subst h;obtain⟨z,hz,D⟩:=Ba hR K (gI hR q);refine⟨z,?_,D⟩;simp_all[execOp,gV,resolve,invoke,builtin,Builtin.max_]
  grind
 .rename_i x l;split at h
  .rename_i v q;cases K:mP P st false v l with
   |none=>simp_all
   |some r=>simp[K] at h;subst h;obtain⟨z,hz,D⟩:=Ba hR K (gI hR q);refine⟨z,?_,D⟩;simp_all[execOp,resolve,invoke,builtin,Builtin.min_]
  grind
 grind
omit hR in
theorem HF {t:TypeId} {f:Nat} {fd:Field} (h:xz P t f=some fd):∃l,P.underlying t=some (.struct l)/\l[f]? =some fd:=by
 unfold xz at h;split at h
 .rename_i l q;exact⟨l,q,h⟩
 .cases h
theorem IG {o:Oper} {t:TypeId} {x:Operand} {f:Nat} {O:SV} (B:o.op= .fieldAddr t x f) (h:fB P o st=some O):oO P μ loc o O a w:=by
 unfold fB at h;rw[B] at h;simp at h;split at h
 .rename_i fd R;obtain⟨fs,hu,S⟩:=HF R;split at h
  .cases h
  .have run:∀D:Addr,(Instr.fieldAt t (.pointer (some D)) f).run P w= .ok (.pointer (some (D.add fd.offset))) w:=λD=>by
    simp_all[Instr.fieldAt,bR,Instr.sureAddr,fieldPlace,kQ]
   split at h
   .rename_i id z q;injection h with h;subst h;obtain⟨b,I,l⟩:=aW hR q;refine eM (by unfold execOp;rw[B]) (by rw[l];exact run _) ?_;exact⟨b,I,by rw[add_lit]⟩
   .rename_i Q q;injection h with h;subst h;obtain⟨b,z,vs,l,F,V⟩:=aW hR q;refine eM (by unfold execOp;rw[B]) (by rw[l];exact run _) ?_;refine⟨b,_,_,by rw[add_lit],F.drop _,λj v U=> ?_⟩;grind
   .rename_i Q q;injection h with h;subst h;have K:=aW hR q;obtain⟨b,z,vs,l,G,H,V⟩:=K;have F:lD _ _ _:=⟨G,H⟩
    refine eM (by unfold execOp;rw[B]) (by rw[l];exact run _) ?_;refine⟨b,_,_,by rw[add_lit],F.drop _,λj v U=> ?_⟩;grind
   .rename_i id sz i z q;injection h with h;subst h;obtain⟨g,n',c,I,l⟩:=aW hR q;refine eM (by unfold execOp;rw[B]) (by rw[l];exact run _) ?_;exact⟨g,n',c,I,by rw[add_lit,gE]⟩
   grind
  grind
 grind
theorem Ks {o:Oper} {x:Operand} {z:SV} (B:o.op= .nilCheck x) (h:fB P o st=some z):oO P μ loc o z a w:=by
 unfold fB at h;simp[B] at h;have G:bI P 0 st x=some z/\∃p,a.eval x= .pointer (some p):=by
  split at h
  .rename_i id q l;have:=aW hR l;grind[fQ]
  .rename_i D l;have:=aW hR l;grind[fQ]
  .rename_i D l;have:=aW hR l;grind[fQ,rep]
  .rename_i id H i q l;have:=aW hR l;grind[fQ]
  .cases h
 obtain⟨l,p,F⟩:=G;refine eM (s:=pure _) ?_ rfl (aW hR l);simp[execOp,B,F]
theorem SR {o:Oper} {t:TypeId} {x:Operand} {f:Nat} {D:SV} (z:o.op= .field t x f) (h:fB P o st=some D):oO P μ loc o D a w:=by
 unfold fB at h;rw[z] at h;simp at h;split at h
 .rename_i fd F I O;obtain⟨Q,S,K⟩:=HF I;cases q:iO P fd.type (F.drop fd.offset) with
  |none=>simp_all
  |some y=>simp[q] at h;subst h;have B:=gI hR O;obtain⟨U,B,G,H⟩:=B;obtain⟨v,R,l⟩:=Lv (w:=w) _ q ⟨G,H⟩;refine eM (by unfold execOp;rw[z]) ?_ l;simp_all[Instr.field,bR,asAgg]
 grind
theorem II {o:Oper} {t:TypeId} {x ix:Operand} {sv:SV} (ho:o.op= .indexAddr t x ix) (h:fB P o st=some sv):oO P μ loc o sv a w:=by
 unfold fB at h;rw[ho] at h;simp only[] at h;split at h
 .rename_i n e hu;unfold D2 at h;split at h
  .rename_i s id K k i B R Q;split at h
   .rename_i O;obtain⟨S,F,hpos⟩:=O;injection h with h;subst h;have l:=aW hR Q;simp only[fQ,rep] at l;obtain⟨b,hl,D⟩:=aW hR R;refine eM (s:=Instr.indexAt t (a.eval x) (a.eval ix)) (by unfold execOp;rw[ho]) (v:= .pointer (some ((⟨b,K,none⟩:Addr).add (i.toNat *s)))) ?_ ?_
    .rw[D,l];have:=kQ B w;simp[Instr.indexAt,asIntOf,bR hu,Instr.sureAddr,S,F,this]
    .exact⟨b,hl,by rw[add_lit]⟩
   grind
  .rename_i s id sz j K k i B R Q;split at h
   .rename_i O;obtain⟨S,F,hpos⟩:=O;injection h with h;subst h;have l:=aW hR Q;simp only[fQ,rep] at l;obtain⟨g,m,c,hl,D⟩:=aW hR R;refine eM (s:=Instr.indexAt t (a.eval x) (a.eval ix)) (by unfold execOp;rw[ho]) (v:= .pointer (some ((⟨g,j *sz+K,none⟩:Addr).add (i.toNat *s)))) ?_ ?_
    .rw[D,l];have:=kQ B w;simp[Instr.indexAt,asIntOf,bR hu,Instr.sureAddr,S,F,this]
    .exact⟨g,m,c,hl,by rw[add_lit,gE]⟩
   grind
  .rename_i s cs k i B R Q;split at h
   .rename_i O;obtain⟨S,F,hpos⟩:=O;injection h with h;subst h;have l:=aW hR Q;simp only[fQ,rep] at l;obtain⟨b,K,vs,D,hcs,hm⟩:=aW hR R;refine eM (s:=Instr.indexAt t (a.eval x) (a.eval ix)) (by unfold execOp;rw[ho]) (v:= .pointer (some ((⟨b,K,none⟩:Addr).add (i.toNat *s)))) ?_ ?_
    .rw[D,l];have:=kQ B w;simp[Instr.indexAt,asIntOf,bR hu,Instr.sureAddr,S,F,this]
    .exact⟨b,_,_,by rw[add_lit],hcs.drop _,λq u hq=>by grind⟩
   grind
  grind
 unfold xB at h;split at h
 .rename_i e s sz xs k i hs R Q;obtain⟨hu,inf,G,B⟩:=fS hs;split at h
  .rename_i O;obtain⟨rfl,S⟩:=O;cases hg:xs[i.toNat]? with
   |none=>simp_all
   |some y=>
    simp[hg] at h;subst h;have F:i.toNat<xs.length:=(bP.1 hg).1;have D:=aW hR R;have l:=aW hR Q;simp only[fQ,rep] at D l;obtain⟨A,c,D,hlc,hcm,V⟩:=D;rcases V with hz|⟨b,K,rfl,V⟩
    .omega
    .obtain⟨vs,hc1,VB,hc3⟩:=WG V hg;refine eM (s:=Instr.indexAt t (a.eval x) (a.eval ix)) (by unfold execOp;rw[ho]) (v:= .pointer (some ((⟨b,K,none⟩:Addr).add (i.toNat *s)))) ?_ ?_
     .rw[D,l];have H:i<(xs.length:Int):=by omega
      simp[Instr.indexAt,asIntOf,bR hu,S,H,sizeOf,typeInfo,G,B]
     .refine⟨b,K+i.toNat *s,vs,by rw[add_lit],hc1,hc3⟩
  grind
 .rename_i e s id k i hs R Q;obtain⟨hu,inf,G,B⟩:=fS hs;split at h
  .rename_i e' sz xs sV;split at h
   .rename_i O;obtain⟨rfl,S,F⟩:=O;injection h with h;subst h;have D:=aW hR R;have l:=aW hR Q;simp only[fQ,rep] at D l;rw[jC (hR.obs id _ sV)] at D;obtain⟨vs,U,hrc,_⟩:=hR.obs id _ sV;obtain⟨g,I,z,_⟩:∃g I,loc id= .slice (some ⟨g,0,none⟩) xs.length I/\True:=by
     rcases U.2 with⟨_,e2⟩|⟨g,I,cur,e1,_⟩
     .omega
     simp_all
    refine eM (s:=Instr.indexAt t (a.eval x) (a.eval ix)) (by unfold execOp;rw[ho]) (v:= .pointer (some ((⟨g,0,none⟩:Addr).add (i.toNat *s)))) ?_ ?_
    .rw[D,l,z];have H:i<(xs.length:Int):=by omega
     simp[Instr.indexAt,asIntOf,bR hu,S,H,sizeOf,typeInfo,G,B]
    .exact⟨g,_,I,by rw[z];rfl,by rw[add_lit];simp⟩
   grind
  .rename_i e' sz k e2 s2 xs ys sV;split at h
   .rename_i O;obtain⟨rfl,S,F⟩:=O;injection h with h;subst h;have D:=aW hR R;have l:=aW hR Q;simp only[fQ,rep] at D l;obtain⟨m,us,vs,hl,_,U,_⟩:=hR.obs id _ sV;rw[hl] at D;replace D:a.eval x=m:=D;obtain⟨g,I,z,_⟩:∃g I,m= .slice (some ⟨g,0,none⟩) xs.length I/\True:=by
     rcases U.2 with⟨_,e2⟩|⟨g,I,cur,e1,_⟩
     .omega
     simp_all
    refine eM (s:=Instr.indexAt t (a.eval x) (a.eval ix)) (by unfold execOp;rw[ho]) (v:= .pointer (some ((⟨g,0,none⟩:Addr).add (i.toNat *s)))) ?_ ?_
    .rw[D,l,z];have H:i<(xs.length:Int):=by omega
     simp[Instr.indexAt,asIntOf,bR hu,S,H,sizeOf,typeInfo,G,B]
    .exact⟨g,_,I,by rw[hl];exact z,by rw[add_lit];simp⟩
   grind
  grind
 .rename_i e s id sz lo hi' k i hs R Q;obtain⟨hu,inf,G,B⟩:=fS hs;split at h
  .rename_i O;obtain⟨rfl,S,F⟩:=O;injection h with h;subst h;have l:=aW hR Q;simp[fQ,rep] at l;obtain⟨A,n,c,A',c',z,hlo,hhi,hc',D,_,hg⟩:=aW hR R;obtain⟨g,rfl,rfl⟩:=hg af;refine eM (by unfold execOp;rw[ho]) (v:= .pointer (some ((⟨g,lo *s,none⟩:Addr).add (i.toNat *s)))) ?_ ?_
   .simp_all[Instr.indexAt,asIntOf,bR,sizeOf,typeInfo]
   .exact⟨g,_,c,by rw[z];rfl,by grind[add_lit]⟩
  grind
 .rename_i e s id n k i hs R Q;obtain⟨hu,inf,G,B⟩:=fS hs;split at h
  .rename_i O;obtain⟨rfl,S,F⟩:=O;injection h with h;subst h;have l:=aW hR Q;simp[fQ,rep] at l;obtain⟨b,z,D⟩:=aW hR R;refine eM (by unfold execOp;rw[ho]) (v:= .pointer (some ((⟨b,0,none⟩:Addr).add (i.toNat *1)))) ?_ ?_
   .have H:i<(n:Int):=by omega
    simp_all[Instr.indexAt,asIntOf,bR,sizeOf,typeInfo]
   .exact⟨b,z,by simp[add_lit]⟩
  grind
 grind
theorem SU {o:Oper} {t:TypeId} {x K:Operand} {D:SV} (B:o.op= .index t x K) (h:fB P o st=some D):oO P μ loc o D a w:=by
 unfold fB at h;rw[B] at h;simp at h;split at h
 .rename_i s k i Q I G;split at h
  .cases z:s[i.toNat]? with
   |none=>simp_all
   |some b=>
    simp[z] at h;subst h;have H:=aW hR I;have l:=aW hR G;simp[fQ,rep] at H l;refine eM (by unfold execOp;rw[B]) ?_ (by rfl);have q:=(bP.1 z)
    obtain⟨O,F⟩:=q
    have:(⟨s.toArray⟩:ByteArray)[i.toNat]? =some b:=by rw[getElem?_pos _ _ _];show some s.toArray[i.toNat]=some b;simp[F]
    simp_all[Instr.index,asIntOf,bR]
  grind
 grind
theorem Vx {o:Oper} {t:TypeId} {x:Operand} {sv:SV} (ho:o.op= .load t x) (h:fB P o st=some sv):oO P μ loc o sv a w:=by
 have start:∀(ad:Addr),a.eval x= .pointer (some ad)->∀v,(loadVar t ad).run P w= .ok v w->∀sv,fQ μ loc sv v->oO P μ loc o sv a w:=λad H v O sv hs=>eM (s:=Instr.loadAt t (a.eval x)) (by unfold execOp;rw[ho]) (v:=v) (by simp_all[Instr.loadAt,Instr.sureAddr]) hs
 unfold fB at h;rw[ho] at h;simp only[] at h;split at h
 .rename_i cs I;cases K:iO P t cs with
  |none=>simp_all
  |some y=>simp[K] at h;subst h;obtain⟨b,l,D,H,R,hm⟩:=aW hR I;obtain⟨v,O,z⟩:=sG (w:=w) (ad:=⟨b,l,none⟩) K R (λj u B=>by rw[add_lit];exact za (hR.yz _ _ _ (hm j u B)) (R.2 u (aV B)));exact start _ H v O _ z
 .rename_i cs I;cases K:iO P t cs with
  |none=>simp_all
  |some y=>
   simp[K] at h;subst h;have hx':=aW hR I;simp only[fQ,rep] at hx';obtain⟨b,l,D,H,S,VB,hm⟩:=hx';have R:lD μ cs D:=⟨S,VB⟩
   obtain⟨v,O,z⟩:=sG (w:=w) (ad:=⟨b,l,none⟩) K R (λj u B=>by rw[add_lit];exact za (hR.yz _ _ _ (hm j u B)) (R.2 u (aV B)));exact start _ H v O _ z
 .rename_i id sz i l I;split at h
  .rename_i e sz' xs F;split at h
   .rename_i hsz;subst hsz;cases hg:xs[i]? with
    |none=>simp_all
    |some c=>cases K:iO P t (c.drop l) with
     |none=>simp_all
     |some y=>
      simp[hg,K] at h;subst h;obtain⟨g,n,cp,V,H⟩:=aW hR I;rw[jC (hR.obs id _ F)] at V;obtain⟨D,G,hrc,_⟩:=hR.obs id _ F;obtain⟨us,S,VB,hc3⟩:=P9 hrc hg;have q:=G.cells (g:=g) (by rw[V];rfl)
      obtain⟨v,O,z⟩:=sG (w:=w) (ad:=⟨g,i *sz+l,none⟩) K (S.drop l) (λj u B=>by
       rw[wW] at B;have:=q _ _ (hc3 _ _ B);rw[add_lit] at this⊢
       rwa[show 0+(i *sz+(l+j))=i *sz+l+j from by omega] at this)
      exact start _ H v O _ z
   grind
  .rename_i e sz' k e' s' xs ys F;split at h
   .rename_i R;obtain⟨rfl,rfl,hi,hagg⟩:=R;injection h with h;subst h;obtain⟨g,n,cp,V,H⟩:=aW hR I;obtain⟨m,us,D,VD,hm,G,hrc,hk,h2,h3,h4,h5,h6,h7⟩:=hR.obs id _ F;have VE:m= .slice (some ⟨g,0,none⟩) n cp:=by rw[VD] at V;exact V
    have q:=G.cells (g:=g) (by rw[VE];rfl);have hlt:i *sz+l<D.length:=by rw[cZ hrc];have:=jR sz (show i+1<=xs.length from hi);rw[jQ,Nat.one_mul] at this;have:=hk.1;omega
    obtain⟨u,B⟩:∃u,D[i *sz+l]? =some u:=⟨D[i *sz+l],aM hlt⟩
    have hcu:=q _ _ B;rw[add_lit,eF] at hcu;refine start _ H u (by simp_all[loadVar,rG]) _ ?_;refine⟨m,us,VD,⟨_,_,_,VE⟩,λx I=> ?_⟩;cases hy:ys[i]? with
    |none=>simp_all
    |some y=>cases y with
     |none=>grind
     |some zs=>grind
   grind
  grind
 .rename_i id l I;obtain⟨b,V,H⟩:=aW hR I;split at h
  .rename_i bt cells F;obtain⟨b',D,hl',hnF,U,I4,hss,h1⟩:=hR.obs id _ F;rw[V] at hl';simp only[Value.pointer.injEq,bg,Addr.mk.injEq,eH] at hl';subst hl';have hcell:∀j,w.cell? ⟨b,j,none⟩=D[j]? :=λj=>by rw[cell_of_row w b j D.toArray bt _ U];simp
   split at h
   .split at h
    .obtain⟨v,hv',O⟩:=NU hss h;simp_all[loadVar,rG]
    grind
   .split at h
    .rename_i n hsz;split at h
     .have Q:=Eh (Eg hss l) n;have hlen:=ql hss;have VD:((D.drop l).take n).length=n:=aH;have O:=Bv (P:=P) w ⟨b,l,none⟩ ((D.drop l).take n) (λj v hj=>by simp_all[add_lit,oQ]);cases hp:mG ((cells.drop l).take n) with
      |none=>
       simp[hp,cL] at h;obtain⟨ks,hk,rfl⟩:=h;refine start _ H (.agg ((D.drop l).take n).toArray) ?_ _ ?_
       .simp_all[loadVar,rG,kQ]
       .exact⟨_,rfl,RX hk Q,λu B=>h1 u (iY (vO B))⟩
      |some cs=>
       simp[hp] at h;subst h;refine start _ H (.agg ((D.drop l).take n).toArray) ?_ _ ?_
       .simp_all[loadVar,rG,kQ]
       .exact⟨_,rfl,Hw hp Q,λu B=>h1 u (iY (vO B))⟩
     grind
    grind
   grind
  grind
 grind
theorem jx {q:Option Operand} {B:Option SV} {d y r:Nat} (l:nV P st q=some B) (h:gX B d y=some r) (code:BoundsCode):
  (q=none/\r=d)\/∃x,q=some x/\(Instr.sliceBound (a.eval x) y code).run P w= .ok r w/\r<=y:=by
 cases q with
 |none=>simp[nV,bg] at l;subst l;simp[gX] at h;simp_all
 |some x=>simp[nV] at l;cases z:bI P 0 st x with
  |none=>simp_all
  |some F=>simp[z] at l;subst l;have D:=aW hR z;cases F with
   |pv v=>cases v with
    |int k i=>
     simp only[gX] at h;split at h
     .injection h with h;subst h;simp[fQ,rep] at D;simp_all[Instr.sliceBound,asIntOf]
     grind
    |_=>simp[gX] at h
   |_=>simp[gX] at h
omit hR in
theorem E5 (s:List UInt8) (l h:Nat) (z:l<=h) (q:h<=s.length):(⟨s.toArray⟩:ByteArray).extract l h=⟨((s.take h).drop l).toArray⟩:=by apply ByteArray.ext;simp[ByteArray.data_extract,List.extract_eq_take_drop,Hp]
theorem Qc {t e:TypeId} {s:Nat} {x:Operand} {V G:Option Operand} {lv S:Option SV} {A:Option Addr} {m c B l:Nat} (hu:P.underlying t=some (.slice e)) (I:kZ P e=some s) (hxv:a.eval x= .slice A m c) (hlc:m<=c)
  (H:nV P st V=some lv) (z:nV P st G=some S) (q:gX S m m=some B) (D:gX lv 0 B=some l):
  (Instr.sliceAt t (a.eval x) (V.map a.eval) (G.map a.eval) none).run P w= .ok (.slice (if c=l then A else A.map (·.add (l *s))) (B-l) (c-l)) w:=by
 obtain⟨inf,R,hs⟩:∃i,P.info? e=some i/\i.size=s:=by unfold kZ at I;simp_all
 have Q:B<=m:=by rcases jx hR z q .sliceAcap with⟨_,e⟩|⟨_,_,_,e⟩<;>omega
 have hlh:l<=B:=by rcases jx hR H D .sliceB with⟨_,e⟩|⟨_,_,_,e⟩<;>omega
 have F:G=none/\B=m\/∃y,G=some y/\(Instr.sliceBound (a.eval y) c .sliceAcap).run P w= .ok B w:=by cases G with
  |none=>
   rcases jx hR z q .sliceAcap with⟨_,e⟩|⟨_,e,_⟩
   .simp_all
   grind
  |some y=>refine .inr ⟨y,rfl,?_⟩;simp[nV] at z;cases U:bI P 0 st y with
   |none=>simp_all
   |some O=>simp[U] at z;subst z;have K:=aW hR U;cases O with
    |pv v=>cases v with
     |int k i=>
      simp only[gX] at q;split at q
      .simp[fQ,rep] at K
       have:i<=(c):=af
       simp_all[Instr.sliceBound,asIntOf]
      simp_all
     |_=>simp[gX] at q
    |_=>simp[gX] at q
 rcases F with⟨rfl,rfl⟩|⟨xh,rfl,rh⟩<;>
 rcases jx hR H D .sliceB with⟨rfl,rfl⟩|⟨xl,rfl,rl,_⟩<;>
 simp[Instr.sliceAt,Instr.slice,bR _,Instr.sliceBounds,sizeOf,typeInfo, *]
theorem M7 {K I:Option Operand} {H G:Option SV} {m q l:Nat} (F:nV P st K=some H) (D:nV P st I=some G) (z:gX G m m=some q) (B:gX H 0 q=some l):q<=m/\l<=q:=by
 constructor
 .rcases jx hR D z .sliceAcap with⟨_,e⟩|⟨_,_,_,e⟩<;>omega
 .rcases jx hR F B .sliceB with⟨_,e⟩|⟨_,_,_,e⟩<;>omega
theorem SX {o:Oper} {t:TypeId} {x:Operand} {lo hi:Option Operand} {sv:SV} (ho:o.op= .slice t x lo hi none) (h:fB P o st=some sv):oO P μ loc o sv a w:=by
 unfold fB at h;rw[ho] at h;simp only[] at h;split at h
 .rename_i s lv hv R V F D;split at h
  .rename_i H B;cases z:gX lv 0 H with
   |none=>simp_all
   |some l=>
    simp[z] at h;subst h;have G:=aW hR V;simp only[fQ,rep] at G;have I:H<=s.length:=by rcases jx hR D B .sliceAlen with⟨_,e⟩|⟨_,_,_,e⟩<;>omega
    have Q:l<=H:=by rcases jx hR F z .sliceB with⟨_,e⟩|⟨_,_,_,e⟩<;>omega
    refine eM (s:=Instr.sliceAt t (a.eval x) (lo.map a.eval) (hi.map a.eval) none) (by unfold execOp;simp_all) (v:= .string ⟨((s.take H).drop l).toArray⟩) ?_ (by rfl);rw[G];have U:(⟨s.toArray⟩:ByteArray).size=s.length:=rfl;have hex:=E5 s l H Q I;rcases jx hR D B .sliceAlen with⟨rfl,rfl⟩|⟨xh,rfl,rh,_⟩<;>
    rcases jx hR F z .sliceB with⟨rfl,rfl⟩|⟨xl,rfl,rl,_⟩<;>
    simp_all[Instr.sliceAt,Instr.slice,bR R,Instr.sliceBounds]
  grind
 .rename_i e sz xs lv hv R V F D;split at h
  .rename_i e' s H hs B;obtain⟨q,inf,O,U⟩:=fS hs;rw[R] at q;injection q with q;injection q with q;subst q;split at h
   .rename_i e;subst e;cases z:gX lv 0 H with
    |none=>simp_all
    |some l=>
     simp[z] at h;subst h;have G:=aW hR V;simp only[fQ,rep] at G;obtain⟨A,c,G,hlc,hcm,S⟩:=G;have I:H<=xs.length:=by rcases jx hR D B .sliceAcap with⟨_,e⟩|⟨_,_,_,e⟩<;>omega
     have Q:l<=H:=by rcases jx hR F z .sliceB with⟨_,e⟩|⟨_,_,_,e⟩<;>omega
     refine eM (s:=Instr.sliceAt t (a.eval x) (lo.map a.eval) (hi.map a.eval) none) (by unfold execOp;simp_all)
      (v:= .slice (if c=l then A else A.map (·.add (l *s))) (H-l) (c-l)) ?_ ?_
     .grind[Qc,kZ]
     .show rep μ (.dD s ((xs.take H).drop l)) _;rw[rep];have hlen:((xs.take H).drop l).length=H-l:=aH;refine⟨_,_,by rw[hlen],by omega,by omega,?_⟩;rcases S with hz|⟨b,off,rfl,S⟩
      .omega
      .by_cases hc:c=l
       .omega
       .refine .inr ⟨b,off+l *s,by rw[az hc];simp[add_lit],?_⟩;simp_all[T9,Ua]
   grind
  grind
 .rename_i e id lv hv R V F D;split at h
  .rename_i e' s e2 sz xs hs sV;obtain⟨q,inf,O,U⟩:=fS hs;rw[R] at q;injection q with q;injection q with q;subst q;split at h
   .rename_i H B;split at h
    .rename_i e;subst e;cases z:gX lv 0 H with
     |none=>simp_all
     |some l=>
      simp[z] at h;subst h;have G:a.eval x=loc id:=(aW hR V:a.eval x=fW (loc id)).trans (jC (hR.obs id _ sV));obtain⟨I,Q⟩:=M7 hR F D B z;obtain⟨vs,hown,hrc,_⟩:=hR.obs id _ sV;obtain⟨A,c,K,hlc,hA⟩:∃A c,loc id= .slice A xs.length c/\xs.length<=c/\(0<xs.length->∃g,A=some ⟨g,0,none⟩):=by
       rcases hown.2 with⟨e1,e2⟩|⟨g,cap,cur,e1,h2,h3,h4⟩
       .simp_all
       grind
      refine eM (s:=Instr.sliceAt t (a.eval x) (lo.map a.eval) (hi.map a.eval) none) (by unfold execOp;simp_all)
       (v:= .slice (if c=l then A else A.map (·.add (l *s))) (H-l) (c-l)) (Qc hR R (by rw[kZ,O];grind) (G.trans K) hlc F D B z) ?_
      refine⟨A,_,c,_,_,K,Q,I,by omega,rfl,λe=> ?_,λhlt=> ?_⟩
      .simp_all[add_zero']
      .obtain⟨g,rfl⟩:=hA af;refine⟨g,rfl,?_⟩;rw[az af];simp[add_lit]
    grind
   grind
  grind
 .rename_i e id sz a' b' lv hv R V F D;split at h
  .rename_i e' s H hs B;obtain⟨q,inf,O,U⟩:=fS hs;rw[R] at q;injection q with q;injection q with q;subst q;split at h
   .rename_i e;subst e;cases z:gX lv 0 H with
    |none=>simp_all
    |some l=>
     simp[z] at h;subst h;obtain⟨A,n,c,A',c',K,XH,VD,hc',G,hz,hg⟩:=aW hR V;obtain⟨I,Q⟩:=M7 hR F D B z;refine eM (by unfold execOp;simp_all)
      (v:= .slice (if c'=l then A' else A'.map (·.add (l *s))) _ _) (Qc hR R (by rw[kZ];grind) G hc' F D B z) ?_
     refine⟨A,_,c,(if c'=l then A' else A'.map (·.add (l *s))),c'-l,K,by omega,by omega,by omega,by grind,λe=> ?_,λhlt=> ?_⟩
     .simp_all[add_zero']
     .obtain⟨g,rfl,rfl⟩:=hg af;rw[az af];simp[add_lit,jQ]
   grind
  grind
 grind
theorem MF {o:Oper} {x:Operand} {i:Nat} {I:SV} (q:o.op= .extract x i) (h:fB P o st=some I):oO P μ loc o I a w:=by
 unfold fB at h;rw[q] at h;simp at h;split at h
 .rename_i O F;cases H:O[i]? with
  |none=>simp_all
  |some y=>simp[H] at h;subst h;have l:=aW hR F;obtain⟨U,l,B⟩:=l;obtain⟨u,Q,D⟩:=tu B H;refine eM (by unfold execOp;rw[q]) ?_ D;simp_all[Instr.extract]
 .rename_i v b F;obtain⟨u,K,l,D,z⟩:=aW hR F;split at h
  .injection h with h;subst h;refine eM (by unfold execOp;rw[q]) ?_ D;rw[l];rfl
  .injection h with h;subst h;refine eM (by unfold execOp;rw[q]) ?_ z;rw[l];rfl
  grind
 .rename_i V v b F;obtain⟨R,K,S,l,D,z,G⟩:=aW hR F;split at h
  .injection h with h;subst h;refine eM (by unfold execOp;rw[q]) ?_ D;rw[l];rfl
  .injection h with h;subst h;refine eM (by unfold execOp;rw[q]) ?_ z;rw[l];rfl
  .injection h with h;subst h;refine eM (by unfold execOp;rw[q]) ?_ G;rw[l];rfl
  grind
 grind
omit hR in
theorem CD {F:List TypeId} {l:List Value} {z:List AV} (h:n9 P F l=some z):lD μ z l:=by induction F generalizing l z with
 |nil=>cases l with
  |nil=>simp[n9] at h;subst h;exact⟨dR,ai⟩
  |cons v l=>simp[n9] at h
 |cons t F H=>cases l with
  |nil=>simp[n9] at h
  |cons v l=>
   simp only[n9] at h;split at h
   .rename_i x xs q D;injection h with h;subst h;have G:=xH (P:=P) (μ:=μ) q;have k:=H D;refine⟨cQ G k.1,λu B=> ?_⟩;rcases aN.1 B with rfl|B
    .unfold ofConst at q;split at q<;>first|rfl|(cases q)
    .exact k.2 u B
   .cases h
omit hR in
theorem UF {F:List TypeId} {q:List Value} {B:List AV} (h:n9 P F q=some B) {k s:Nat} (z:B[k]? =some (.dD s [])):∃v,q[k]? =some v/\v= .slice none 0 0:=by induction F generalizing q B k with
 |nil=>cases q with
  |nil=>simp[n9] at h;subst h;simp at z
  |cons v q=>simp[n9] at h
 |cons t F I=>cases q with
  |nil=>simp[n9] at h
  |cons v q=>
   simp only[n9] at h;split at h
   .rename_i x xs l D;injection h with h;subst h;cases k with
    |zero=>
     simp at z;subst z;refine⟨v,rfl,?_⟩;unfold ofConst at l;split at l
     .cases l
     .cases l
     .cases l
     .rfl
     .cases l
     .cases l
     .split at l<;>cases l
     .cases l
    |succ k=>obtain⟨K,G,H⟩:=I D (by simpa using z);exact⟨K,by simpa using G,H⟩
   .cases h
omit hR in
theorem T7 {z:List AV}:∀{k:Nat} {q:List Value} {u:Value} {a:AV},cN μ z q->q[k]? =some u->rep μ a u->cN μ (z.set k a) q:=by induction z with
 |nil=>intro k q u a h l _;simp only[cN] at h;subst h;simp at l
 |cons c z H=>intro k q u a h l D;obtain⟨v,F,rfl,G,B⟩:=h;cases k with
  |zero=>simp at l;subst l;exact⟨v,F,rfl,D,B⟩
  |succ k=>exact⟨v,F,rfl,G,H B (by simpa using l) D⟩
omit hR in
theorem oC {t:TypeId} {z:List AV} (h:zeroCells P t=some z):∃i v,P.info? t=some i/\i.zero=some v/\lD μ z v.cells.toList:=by
 unfold zeroCells at h;split at h
 .rename_i i l;split at h
  .rename_i v q;exact⟨i,v,l,q,CD h⟩
  .cases h
 .cases h
theorem yp {ty:Nat->TypeId} {l:List (Nat×Operand)} {q:List (Nat×AV)} (h:partsOf P ty st l=some q):
  q.map (·.1)=l.map (·.1)/\cN μ (q.map (·.2)) (l.map λp=>a.eval p.2):=by
 induction l generalizing q with
 |nil=>simp[partsOf] at h;subst h;exact⟨rfl,dR⟩
 |cons p l z=>grind[partsOf,cQ,gI]
omit hR in
theorem Ip (z:List Value):∀(l:List Value) (q k:Nat),q+k+l.length<=z.length->
  ((l.zipIdx k).foldl (λ(B:Array Value) (p:Value×Nat)=>B.setIfInBounds (q+p.2) p.1) z.toArray)=(z.take (q+k)++l++z.drop (q+k+l.length)).toArray:=by
 intro l;induction l generalizing z with
 |nil=>intro q k h;simp
 |cons v l F=>intro q k h;simp only[List.zipIdx_cons,gb];simp only[bz] at h;have D:z.toArray.setIfInBounds (q+k) v=(z.set (q+k) v).toArray:=ai;rw[D,F (z.set (q+k) v) q (k+1) aH];congr 1;rw[<-gE,List.take_succ_eq_append_getElem aH];simp only[List.getElem_set_self,Hr (aR _),bz];rw[Hs af];simp only[ee,gF,dK];congr 4;omega
omit hR in
theorem DY {place:Nat->Option (Nat×Nat)} {cells S:List AV} {H:List Value} {G:List (Nat×AV)} {us:List (Nat×Value)}
  (h:yL place cells G=some S) (Q:lD μ cells H) (F:G.map (·.1)=us.map (·.1)) (O:cN μ (G.map (·.2)) (us.map (·.2))) (U:∀p∈G,∀x,p.2≠ .gU x):
  ∃ws:List Value,Instr.fill place H.toArray us=some ws.toArray/\lD μ S ws:=by
 induction G generalizing cells H us with
 |nil=>cases us with
  |nil=>simp[yL] at h;subst h;exact⟨H,by simp[Instr.fill],Q⟩
  |cons u us=>simp at F
 |cons p G ih=>cases us with
  |nil=>simp at F
  |cons u us=>
   obtain⟨i,x⟩:=p;obtain⟨i',y⟩:=u;simp only[bH,cR] at F;obtain⟨rfl,F⟩:=F;simp only[bH,cN] at O;obtain⟨u',us',e,hx,O⟩:=O;simp only[cR] at e;obtain⟨rfl,rfl⟩:=e;simp only[yL] at h;split at h
   .cases h
   .rename_i l size R;split at h
    .rename_i B;have K:=NV hx (λz=>U (i,x) ai z);have q:y.cells.size=size:=by
      have:=K.length;simpa[B.1] using this
     have hvl:=Q.length;have D:=((Q.take l).append K).append (Q.drop (l+size));obtain⟨ws,hw,hr⟩:=ih h D F O (λp hp=>U p (by simp[hp]));refine⟨ws,?_,hr⟩;simp only[Instr.fill,R];have V:¬(l+y.cells.size>H.toArray.size):=aH;rw[az (by simp[q];omega)];rw[<-hw];congr 1;have I:=Ip H y.cells.toList l 0 aH;simp only[lV,Bx,q] at I;rw[<-I,<-Array.foldl_toList,RP]
    .cases h
omit hR in
theorem run_places (l:List Field) (q:l.all (λf=>(kZ P f.type).isSome)=true):
  (l.mapM (λf=>Functor.map (Prod.mk f.offset) (sizeOf f.type)):Sem (List (Nat×Nat))).run P w= .ok (l.map λf=>(f.offset,(kZ P f.type).getD 0)) w:=by
 induction l with
 |nil=>rfl
 |cons f l B=>simp only[lW,aU] at q;obtain⟨n,z⟩:=qX.1 q.1;simp[qY,kQ z,z,B q.2]
omit hR in
theorem Ij {t:List TypeId}:∀{F:List Nat} {z B:List AV} {q:List Value},n9 P t q=some z->FV F z=some B->lD μ B q
 |[],z,B,q,h,l=>by simp only[FV,bg] at l;subst l;exact CD h
 |k::F,z,B,q,h,l=>by
  simp only[FV] at l;split at l
  .rename_i s H;obtain⟨K,G,rfl⟩:=cL.1 l;have D:=Ij h G;obtain⟨v,I,e⟩:=UF h H;subst e;refine⟨?_,D.2⟩;have:=T7 D.1 I (a:= .tS) (by simp[rep]);exact this
  .cases l
omit hR in
theorem Of {h:Hint} {d:Option Nat} {t:TypeId} {z:List AV} (q:Oe P h d t=some z):∃i v,P.info? t=some i/\i.zero=some v/\lD μ z v.cells.toList:=by
 unfold Oe at q;split at q
 .rename_i H G;obtain⟨I,l,B⟩:=dy.1 q;unfold zeroCells at l;split at l
  .rename_i i D;split at l
   .rename_i v F;exact⟨i,v,D,F,Ij l B⟩
   .cases l
  .cases l
 .exact oC q
theorem Dr {o:Oper} {V:Option (List AV)} {t:TypeId} {l:Array (Nat×Operand)} {U:SV} (G:∀z,V=some z->∃i v,P.info? t=some i/\i.zero=some v/\lD μ z v.cells.toList) (S:o.op= .build t l) (h:zZ P V t l st=some U):oO P μ loc o U a w:=by
 unfold zZ at h;split at h
 .rename_i fs hu;split at h
  .rename_i z Q B;split at h
   .rename_i q;obtain⟨q,K⟩:=q;cases D:yL (pJ P t) z Q with
    |none=>simp_all
    |some R=>
     simp[D] at h;subst h;obtain⟨i,v,hi,hv,I⟩:=G z rfl;obtain⟨h1,h2⟩:=yp hR B
     obtain⟨ws,hw,F⟩:=DY (us:=l.toList.map λp=>(p.1,a.eval p.2)) D I (by simp_all) (by simp_all[eG,mX]) (λp O x e=>by
      have:=cI.1 q p O
      rw[e] at this;cases this)
     refine eM (s:=Instr.build t (l.map λp=>(p.1,a.eval p.2))) (by unfold execOp;rw[S]) (v:= .agg ws.toArray) ?_ ?_
     .obtain⟨H⟩:=fs;have RC:=run_places (w:=w) H K;have hpe:(λx=>Option.map (λf:Field=>(f.offset,(kZ P f.type).getD 0)) H[x]?)=pJ P t:=by
       funext x;simp only[pJ,xz,hu,Ht];cases hx:H[x]? with
       |none=>rfl
       |some fd=>grind[Option.isSome_iff_exists,List.all_eq_true,List.mem_of_getElem?]
      simp_all[Array.toArray_toList,Instr.build,zeroValue,typeInfo,bR]
     .show rep μ (.agg R) _;exact⟨ws,rfl,F.1,F.2⟩
   grind
  grind
 .split at h
  .rename_i z Q s B hs;split at h
   .rename_i q;cases D:yL (λi=>some (i *s,s)) z Q with
    |none=>simp_all
    |some R=>
     simp[D] at h;subst h;obtain⟨i,v,hi,hv,I⟩:=G z rfl;obtain⟨h1,h2⟩:=yp hR B
     obtain⟨ws,hw,F⟩:=DY (us:=l.toList.map λp=>(p.1,a.eval p.2)) D I (by simp_all) (by simp_all[mX]) (λp O x e=>by
      have:=cI.1 q p O
      rw[e] at this;cases this)
     refine eM (by unfold execOp;rw[S]) (v:= .agg ws.toArray) ?_ ?_
     .simp_all[Instr.build,zeroValue,typeInfo,bR,kQ]
     .exact⟨ws,rfl,F.1,F.2⟩
   grind
  grind
 grind
theorem SQ {o:Oper} {B:Hint} {t:TypeId} {l:Array (Nat×Operand)} {q:SV} (D:o.op= .build t l) (h:zZ P (Oe P B o.dst t) t l st=some q):oO P μ loc o q a w:=
 Dr hR (λz F=>Of F) D h
omit hR in
theorem MB {l:TypeDesc} {V:TypeId} (Q:P.underlying V=some l) {key:AV} {O:Value} (I:rep μ key O) (z:om P V key=true):∀{G:List AV} {eL:List MapEntry} {r:Option Nat} (i:Nat),cN μ G (eL.map (·.key))->xD key G=some r->
  (match r with
  |some j=>∃e,eL[j]? =some e/\Instr.findNow l O eL i=some (some (i+j,e.val))/\∃x,G[j]? =some x/\xC key x=some true
  |none=>Instr.findNow l O eL i=some none):=by
 intro G;induction G with
 |nil=>
  intro eL r i h q;simp only[xD,bg] at q;subst q;rw[cN] at h
  have:eL=[]:=by simpa using h
  subst this;rfl
 |cons x G ih=>intro eL r i h q;rw[cN] at h;obtain⟨u,us,e,D,F⟩:=h;cases eL with
  |nil=>simp at e
  |cons S eL=>
   simp only[bH,cR] at e;obtain⟨rfl,rfl⟩:=e;have same:∀b,xC key x=some b->Instr.sameNow l O S.key=some b:=by
    intro b H;unfold xC at H;split at H
    .rename_i s t;rw[rep] at I D;rw[I,D];simp only[om,Q] at z;cases l<;>simp at z;simp only[Instr.sameNow,aeg];exact H
    .rename_i k s k' t;rw[rep] at I D;rw[I,D];simp only[om,Q] at z;cases l<;>simp at z;simp only[Instr.sameNow];exact H
    .rename_i s t;rw[rep] at I D;rw[I,D];simp only[om,Q] at z;cases l<;>simp at z;simp only[Instr.sameNow];exact H
    .cases H
   simp only[xD] at q;split at q
   .rename_i K;injection q with q;subst q;have B:=same _ K;exact⟨S,rfl,by simp only[Instr.findNow,B];simp,x,rfl,K⟩
   .rename_i K;have B:=same _ K;cases R:xD key G with
    |none=>simp[R] at q
    |some r'=>simp[R] at q;subst q;have U:=ih (i+1) F R;cases r' with
     |none=>simp only[Option.map_none,Instr.findNow,B];exact U
     |some j=>obtain⟨e,he,q,D⟩:=U;exact⟨e,by simpa using he,by simp only[Instr.findNow,B,q];congr 3;omega,by simpa using D⟩
   .cases q
omit hR in
theorem rZ {B:TypeId} {key:AV} {D:Value} (q:rep μ key D) (l:om P B key=true) (b:Bool) (w:World):(Instr.checkKey b 10000 B D).run P w= .ok () w:=by
 have key:∀n,(Instr.checkKey b (n+1) B D).run P w= .ok () w:=by
  intro n;unfold om at l;split at l
  .rename_i z;rw[rep] at q;subst q;simp[Instr.checkKey,bR z]
  .rename_i z;rw[rep] at q;subst q;simp[Instr.checkKey,bR z]
  .rename_i z;rw[rep] at q;subst q;simp[Instr.checkKey,bR z]
  .cases l
 exact key 9999
omit hR in
theorem V5 {z:TypeId} {key:AV} (l:om P z key=true):∃q,P.underlying z=some q:=by
 unfold om at l;split at l
 .exact⟨_, ‹_›⟩
 .exact⟨_, ‹_›⟩
 .exact⟨_, ‹_›⟩
 .cases l
omit hR in
theorem BV {B:TypeId} {key:AV} {D:Value} (I:rep μ key D) (l:om P B key=true) {ks:List AV} {eL:List MapEntry} {r:Option Nat} (h:cN μ ks (eL.map (·.key))) (H:xD key ks=some r) (w:World):
  match r with
  |some j=>∃e,eL[j]? =some e/\(Instr.findKey B D eL).run P w= .ok (some (j,e.val)) w/\∃x,ks[j]? =some x/\xC key x=some true
  |none=>(Instr.findKey B D eL).run P w= .ok none w:=by
 obtain⟨F,z⟩:=V5 l;have q:=MB z I l 0 h H;cases r with
 |none=>simp only[] at q⊢;simp[Instr.findKey,bR z,q]
 |some j=>obtain⟨e,G,K,O⟩:=q;exact⟨e,G,by simp[Instr.findKey,bR z,K],O⟩
omit hR in
theorem Iy {t:TypeId} {z:AV} (h:C1 P t=some z) (w:World):∃v,(zeroValue t).run P w= .ok v w/\rep μ z v:=by
 unfold C1 at h;split at h
 .rename_i i G;have l:∀v,i.zero=some v->(zeroValue t).run P w= .ok v w:=λv H=>by simp[zeroValue,typeInfo,G,H]
  split at h
  .rename_i D B;cases q:n9 P (tA P 8 t) D.toList with
   |none=>simp[q] at h
   |some I=>simp[q] at h;subst h;have F:=CD (μ:=μ) q;refine⟨_,l _ B,?_⟩;rw[rep];exact⟨D.toList,by simp,F.1,F.2⟩
  .rename_i v _ B;exact⟨v,l v B,xH h⟩
  .cases h
 .cases h
theorem OX {o:Oper} {t:TypeId} {x k:Operand} {ok:Bool} {sv:SV} (ho:o.op= .lookup t x k ok) (h:fB P o st=some sv):oO P μ loc o sv a w:=by
 unfold fB at h;rw[ho] at h;simp only[] at h;split at h
 .rename_i kt et hu;split at h
  .rename_i ks vs key hx hk;cases q:om P kt key with
   |false=>simp_all
   |true=>
    simp only[q,au] at h;have B:=gI hR hk;obtain⟨sx,hsx,hmx⟩:=dy.1 hx;have hm:=KK hR hmx (aW hR hsx);have S:∀(y:AV) (b:Bool) (F:Value),rep μ y F->rep _ (found ok y b) (if ok=true then .tuple #[F, .bool b] else F):=λy b F Q=>by cases ok with
     |false=>exact Q
     |true=>exact⟨_,rfl,cQ Q (cQ (by simp[rep]) dR)⟩
    have run:∀(y) (b) (F),rep _ y F->(Instr.lookup t _ _ _).run P w= .ok _ w->oO P _ loc o (.pv _) a w:=λy b F Q hr=>eM (by unfold execOp;rw[ho]) hr (S y b _ Q)
    unfold Wg at h;rcases hm with⟨O,rfl,rfl⟩|⟨b,eL,R,O,hh,h1,h2⟩
    .simp[xD] at h;cases K:C1 P et with
     |none=>simp_all
     |some z=>simp[K] at h;subst h;obtain⟨zv,G,l⟩:=Iy K w;refine run z _ _ l ?_;have D:=BV B q (ks:=[]) (eL:=[]) (by rfl) rfl w;rw[O];simp[Instr.lookup,bR hu,rZ B q,D,G]
    .cases V:xD key ks with
     |none=>simp_all
     |some r=>have D:=BV B q h1 V w;cases r with
      |none=>simp[V] at h;cases K:C1 P et with
       |none=>simp_all
       |some z=>simp[K] at h;subst h;obtain⟨zv,G,l⟩:=Iy K w;refine run z _ _ l ?_;rw[O];simp[Instr.lookup,bR hu,oA hh,rZ B q,D,G]
      |some j=>simp[V] at h;cases hg:vs[j]? with
       |none=>simp_all
       |some y=>
        simp[hg] at h;subst h;obtain⟨e,he,H,_⟩:=D;obtain⟨F,I,hyr⟩:=tu h2 hg;have :=by
         have U :=by simpa using he
         simp[U] at I;exact I.symm
        subst this;refine run y _ _ hyr ?_;rw[O];simp[Instr.lookup,bR hu,oA hh,rZ B q,H]
  grind
 grind
theorem OY {o:Oper} {t:TypeId} {x H:Operand} {lo D:Option Operand} {I:SV} (V:o.op= .slice t x lo D (some H)) (h:fB P o st=some I):oO P μ loc o I a w:=by
 unfold fB at h;rw[V] at h;simp only[XA] at h;split at h
 rotate_left
 .cases h
 rename_i D;split at h
 .rename_i id hx;split at h
  .rename_i Q sz xs e s ka va kb vb q hs R U;split at h
   .injection h with h;subst h;obtain⟨hu,inf,G,hsz⟩:=fS hs;have hxv :=(aW hR hx).trans (jC (hR.obs _ _ q));have B:=aW hR R;have F:=aW hR U;simp[fQ,rep] at B F;obtain⟨vs,z,hrc,_⟩:=hR.obs _ _ q;obtain⟨A,c,l,S,hA⟩:∃A c,loc id= .slice A xs.length c/\xs.length<=c/\(A.map (·.add (0 *s))=A):=by
     rcases z.2 with⟨e1,Q⟩|⟨g,K,O,e1,h2,h3,h4⟩
     .simp_all
     grind[add_zero']
    refine eM (s:=Instr.sliceAt t (a.eval x) (none) (some (a.eval D)) (some (a.eval H))) (by unfold execOp;simp_all) ?_ ⟨A,_,c,l,rfl⟩;simp_all[Instr.sliceAt,Instr.slice,bR,Instr.sliceBounds,Instr.sliceBound,asIntOf,sizeOf,typeInfo]
   grind
  grind
 grind
theorem As {o:Oper} {B:SV} (h:fB P o st=some B):oO P μ loc o B a w:=by
 have l:=h;unfold fB at l;split at l
 .grind[D1]
 .rename_i x q;exact D1 hR (.inr q) l
 .grind[Vy]
 .grind[ZD]
 .grind[abN]
 .grind[ME]
 .grind[HO]
 .grind[Ks]
 .grind[IG]
 .grind[SR]
 .grind[II]
 .grind[SU]
 .grind[Vx]
 .grind[SX]
 .grind[OY]
 .grind[MF]
 .grind[OX]
 .rename_i q;exact Dr hR (λz D=>oC D) q af
 simp_all
end
end
