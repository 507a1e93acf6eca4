/- THE ABSTRACT MACHINE. -/
import Derived.Test.YthppjmoncapdfaaGreatDoorAmRel
import Derived.Laws.Strings
import Derived.Laws.StructEq
set_option linter.all false
namespace Go.AM
section
variable {P:Program} {μ:Mu} {loc:Nat->Value} {w:World}
def rE {t:TypeId} {v:Value} {x:AV} (h:ofConst P t v=some x):rep μ x v:=by
 unfold ofConst at h;split at h
 .grind[rep]
 .grind[rep]
 .grind[rep]
 .cases l:isSlice P t with
  |none=>simp_all
  |some y=>simp[l] at h;subst h;exact⟨_,0,rfl,aJ _,cB _, .inl rfl⟩
 .grind[rep]
 .grind[rep,Value.oneCell',Value.cells]
 .split at h
  .injection h with h;subst h;rw[rep];simp
  grind
 grind
def mS {t:TypeId} {b:Bool} (h:xG P t=some b) (w:World):(isAgg t).run P w= .ok b w:=by
 unfold xG at h;unfold isAgg;split at h
 .simp_all[aU]
 .simp_all[aU]
 .rename_i d q z l;injection h with h;subst h;simp only[ek,aU l,e9];rfl
 grind
def iq {t:TypeId} {n:Nat} (h:iO P t=some n) (w:World):(sizeOf t).run P w= .ok n w:=by unfold iO at h;cases l:P.info? t with
 |none=>simp_all
 |some i=>simp_all[sizeOf,typeInfo]
def eH {t:TypeId} {e:TypeId} {s:Nat} (h:isSlice P t=some (e,s)):P.underlying t=some (.slice e)/\∃i,P.info? e=some i/\i.size=s:=by
 unfold isSlice at h;split at h
 .rename_i l z;cases q:P.info? l with
  |none=>simp_all
  |some i=>simp_all
 grind
theorem add_lit (b l j:Nat):(⟨b,l,none⟩:Addr).add j=⟨b,l+j,none⟩:=by simp_all[Addr.add]
theorem add_zero' (p:Addr):p.add 0=p:=by rfl
def nK {t:TypeId} {ad:Addr} {D:List AV} {z:List Value} {x:AV} (q:fL P t D=some x) (B:gV μ D z)
  (l:∀j v,z[j]? =some v->w.cell? (ad.add j)=some v):∃v,(loadVar t ad).run P w= .ok v w/\rep μ x v:=by
 unfold fL at q;split at q
 .rename_i n I O;split at q
  .injection q with q;subst q;have K:(z.take n).length=n:=by rw[gB,B.length];omega
   have G:=uI (P:=P) w _ (z.take n) (λj v F=>l j v (by grind));refine⟨.agg (z.take n).toArray,?_,?_⟩
   .simp_all[loadVar,mS,iq]
   .exact⟨_,rfl,(B.take n).1,(B.take n).2⟩
  simp_all
 .obtain⟨v,F,G⟩:=ow B.1 q;have H:=l 0 v F;simp_all[Addr.add,loadVar,mS]
 simp_all
def Cm {t:TypeId} {D:List AV} {B:List Value} {x:AV} (q:Nat) (l:fL P t (D.drop q)=some x) (z:gV μ D B):
  ∃v,(part t B.toArray q).run P w= .ok v w/\rep μ x v:=by
 unfold fL at l;split at l
 .rename_i n F G;split at l
  .injection l with l;subst l;refine⟨.agg ((B.drop q).take n).toArray,?_,?_⟩
   .simp[part,mS F,iq G]
   .exact⟨_,rfl,((z.drop _).take n).1,((z.drop _).take n).2⟩
  simp_all
 .obtain⟨v,I,H⟩:=ow (z.drop _).1 l;simp_all[part,mS]
 simp_all
def DX {xs:List SV} {l:List Value} (h:fK μ loc xs l) {i:Nat} {x:SV} (q:xs[i]? =some x):∃v,l[i]? =some v/\eV μ loc x v:=by induction xs generalizing l i with
 |nil=>simp at q
 |cons y xs D=>obtain⟨u,F,rfl,z,B⟩:=h;grind
theorem lN {xs:List SV} {l:List Value} (h:fK μ loc xs l):l.length=xs.length:=by induction xs generalizing l with
 |nil=>exact aC _ h
 |cons x xs z=>obtain⟨u,B,rfl,_,q⟩:=h;simp_all
theorem xA {xs:List SV} {l:List Value} (h:fK μ loc xs l) (n:Nat):fK μ loc (xs.drop n) (l.drop n):=by induction n generalizing xs l with
 |zero=>assumption
 |succ n z=>cases xs with
  |nil=>simp_all[fK]
  |cons x xs=>obtain⟨u,B,rfl,_,q⟩:=h;simp_all
theorem xB {xs:List SV} {l:List Value} (h:fK μ loc xs l) (n:Nat):fK μ loc (xs.take n) (l.take n):=by induction n generalizing xs l with
 |zero=>rfl
 |succ n B=>cases xs with
  |nil=>simp_all[fK]
  |cons x xs=>obtain⟨u,D,rfl,q,z⟩:=h;exact⟨u,_,by simp,q,B z⟩
theorem lM {xs z:List SV} {l q:List Value} (h:fK μ loc xs l) (k:fK μ loc z q):fK μ loc (xs++z) (l++q):=by induction xs generalizing l with
 |nil=>have:l=[]:=h;simp_all
 |cons x xs F=>obtain⟨u,G,rfl,B,D⟩:=h;exact⟨u,_,by simp,B,F D⟩
def nJ {l:List AV} {q:List Value} (h:bl μ l q):fK μ loc (l.map .pv) q:=by induction l generalizing q with
 |nil=>assumption
 |cons x xs D=>obtain⟨u,F,rfl,z,B⟩:=h;exact⟨u,F,rfl,z,D B⟩
def GG {xs:List SV} {q:List l8} {B:List Value} (h:q8 xs=some q) (k:fK μ loc xs B):gW μ loc q B:=by induction xs generalizing q B with
 |nil=>simp[q8,aB] at h;subst h;exact k
 |cons x xs G=>obtain⟨u,H,rfl,D,F⟩:=k;cases x with
  |pv v=>simp[q8,bg] at h;obtain⟨z,l,rfl⟩:=h;exact⟨u,H,rfl,D,G l F⟩
  |row id=>simp[q8,bg] at h;obtain⟨z,l,rfl⟩:=h;exact⟨u,H,rfl,D,G l F⟩
  |_=>simp[q8] at h
def zS {xs:List SV} {l:List AV} {q:List Value} (h:kF xs=some l) (k:fK μ loc xs q):bl μ l q:=by induction xs generalizing q l with
 |nil=>simp[kF] at h;subst h;assumption
 |cons x xs F=>cases x with
  |pv v=>simp[kF] at h;cases z:kF xs with
   |none=>simp_all
   |some G=>simp[z] at h;subst h;obtain⟨u,H,rfl,B,D⟩:=k;exact bq B (F z D)
  |_=>simp[kF] at h
theorem bV {q:Nat} {xs:List (List AV)} {l:List Value} (h:bS μ q xs l):l.length=xs.length *q:=by induction xs generalizing l with
 |nil=>have:l=[]:=h;simp_all
 |cons x xs D=>obtain⟨F,ws,rfl,_,z,B⟩:=h;grind
def Ft {q:Nat} {xs:List (List AV)} {z:List Value} (h:bS μ q xs z) {i:Nat} {x:List AV} (B:xs[i]? =some x):
  ∃l:List Value,gV μ x l/\l.length=q/\∀j u,l[j]? =some u->z[i *q+j]? =some u:=by
 induction xs generalizing z i with
 |nil=>simp at B
 |cons y xs H=>obtain⟨l,ws,rfl,D,F,G⟩:=h;cases i with
  |zero=>grind
  |succ i=>grind
end
section
variable {P:Program} {N:Nat} {w0:World} {μ0:Mu} {L:nV} {μ:Mu} {loc:Nat->Value} {st:St} {a:Act} {w:World}
theorem aG (hR:Rel N w0 μ0 L μ loc st a w) {t:TypeId} {x:Operand} {q:SV} (h:aN P t st x=some q):eV μ loc q (a.eval x):=by cases x with
 |tmp i=>obtain⟨v,B,z⟩:=hR.env i _ h;simp_all[Act.eval]
 |const v=>simp[aN] at h;cases l:ofConst P t v with
  |none=>simp_all
  |some y=>simp[l] at h;subst h;exact rE l
 |func f=>simp[aN] at h;subst h;exact⟨[],rfl,cF⟩
 |global g=>simp[aN] at h
theorem dD (hR:Rel N w0 μ0 L μ loc st a w) {t:TypeId} {x:Operand} {v:AV} (h:(aN P t st x).bind fP =some v):rep μ v (a.eval x):=by cases l:aN P t st x with
 |none=>simp_all
 |some q=>have:=aG hR l;cases q<;>simp[l,fP] at h;subst h;exact this
def Hf (op:BinOp) (t:TypeId) (X Y:Operand) (k k':IntKind) (n m:Int) (w:World):(eqGuard op t X Y (.int k n) (.int k' m)).run P w= .ok () w:=by unfold eqGuard;simp
def Hg (op:BinOp) (t:TypeId) (X Y:Operand) (x y:ByteArray) (w:World):(eqGuard op t X Y (.string x) (.string y)).run P w= .ok () w:=by unfold eqGuard;simp
def Ez (op:BinOp) (t:TypeId) (X Y:Operand) (x y:Bool) (w:World):(eqGuard op t X Y (.bool x) (.bool y)).run P w= .ok () w:=by unfold eqGuard;simp
def run_equalIn_bool (d:Nat) {t:TypeId} (l:P.underlying t=some .bool) (x y:Bool) (w:World):(Op.equalIn (d+1) t (.bool x) (.bool y)).run P w= .ok (x==y) w:=by simp[Op.equalIn,aU l]
def Qz (a b:List UInt8):((⟨a.toArray⟩:ByteArray)==⟨b.toArray⟩)=(a==b):=by
 show(a.toArray==b.toArray)=(a==b)
 simp
def MV {t:TypeId} {a:AV} (h:gF P t a=true):xG P t=some false:=by unfold gF at h;grind[xG]
def zI {xs Q:List AV} {W V:List Value} (S:gV μ xs W) (U:gV μ Q V) (d:Nat):∀{F:List Field} {b:Bool},Ds P xs Q F=some b->(Op.eqFields (d+1) W.toArray V.toArray F).run P w= .ok b w
 |[],b=>λh=>by simp_all[Ds,Op.eqFields]
 |f::F,b=>λh=>by
  unfold Ds at h;split at h
  .rename_i R z G H;cases I:(!(f.name== "_")&&gF P f.type R&&gF P f.type z&&(iO P f.type).isSome) with
   |false=>simp_all
   |true=>
    simp[I] at h;simp at I;obtain⟨⟨⟨hn,l⟩,hky⟩,O⟩:=I;obtain⟨n,D⟩:=kK.1 O;have B:=MV l;have t1:fL P f.type (xs.drop f.offset)=some R:=by unfold fL;rw[B,D];simpa using G
    have t2:fL P f.type (Q.drop f.offset)=some z:=by unfold fL;rw[B,D];simpa using H
    obtain⟨v,hv,rv⟩:=Cm (w:=w) _ t1 S;obtain⟨u,hu,ru⟩:=Cm (w:=w) _ t2 U;split at h
    .rename_i r q K hq;injection h with h;subst h;have ih:=zI S U d hq;have he:(Op.equalIn (d+1) f.type v u).run P w= .ok r w:=by
      unfold gF at l;split at l
      .cases z<;>simp[rz] at K;simp_all[rep,run_equalIn_string]
      .cases z<;>simp[rz] at K;simp_all[rep,run_equalIn_int]
      .cases z<;>simp[rz] at K;simp_all[rep,run_equalIn_bool']
      .cases l
     simp[Op.eqFields,ak hn,ek,hv,hu,he,e9,Sem.run_ite,ih];cases r<;>simp
    grind
  grind
def Eg {op:BinOp} {t:TypeId} {xs F:List AV} {r:AV} {X Y:Operand} {u v:Value} (h:Jf P op t xs F=some r) (Q:rep μ (.agg xs) u) (R:rep μ (.agg F) v):
  ∃z,(do eqGuard op t X Y u v;binOp op t u v).run P w= .ok z w/\rep μ r z:=by
 obtain⟨W,rfl,H,I⟩:=Q;obtain⟨V,rfl,S,U⟩:=R;unfold Jf at h;split at h
 .rename_i G D;cases l:(!(P.stoodInHeld t)&& !(P.eqGuardType P.depth t)) with
  |false=>simp_all
  |true=>
   simp[l] at h;simp at l;have B:P.fieldsOf t=G:=by unfold Program.fieldsOf;rw[D]
   have q:P.underlying t=some (.struct (P.fieldsOf t)):=by rw[B];exact D
   have O:∀b,Ds P _ _ _=some b->(Op.equalIn 10000 t _ _).run P w= .ok b w:=λb K=>by rw[run_equalIn_struct w _ t _ _ q l.1,B];exact zI ⟨H,I⟩ ⟨S,U⟩ _ K
   simp[ek,run_eqGuard_agg w _ t X Y _ _ l.2];split at h
   .injection h with h;subst h;simp_all[binOp,Op.equal,Op.maxDepth,rep]
   .injection h with h;subst h;simp_all[binOp,Op.equal,Op.maxDepth,rep]
   grind
 grind
def Mm {op:BinOp} {t:TypeId} {x y r:AV} {X Y:Operand} {u v:Value} (h:bin P op t x y=some r) (l:rep μ x u) (q:rep μ y v):
  ∃z,(do eqGuard op t X Y u v;binOp op t u v).run P w= .ok z w/\rep μ r z:=by
 cases x with
 |int k n=>cases y with
  |int k' m=>
   rw[rep] at l q;subst l;subst q;simp only[ek,Hf,e9];unfold bin at h;cases op
   case shl=>
    simp only[vA] at h;split at h
    .cases h
    .injection h with h;subst h;rename_i B;exact⟨_,by simp[binOp,Op.shift,B];rfl,by simp[rep]⟩
   case shr=>
    simp only[vA] at h;split at h
    .cases h
    .injection h with h;subst h;rename_i B;exact⟨_,by simp[binOp,Op.shift,B];rfl,by simp[rep]⟩
   case quo=>
    simp only[] at h;split at h
    .rename_i e;subst e;simp only[zg] at h;split at h
     .cases h
     .injection h with h;subst h;simp_all[binOp,Op.intDiv,rep]
    grind
   case rem=>
    simp only[] at h;split at h
    .rename_i e;subst e;simp only[zg] at h;split at h
     .cases h
     .injection h with h;subst h;simp_all[binOp,Op.intDiv,rep]
    grind
   all_goals
    simp only[] at h;split at h
    .rename_i e;subst e;simp only[zg,aB] at h;subst h;simp_all[binOp,Op.intArith,Op.intBits,Op.intCmp,rep]
    grind
  |_=>simp[bin] at h
 |str s=>cases y with
  |str D=>
   rw[rep] at l q;subst l;subst q;simp only[ek,Hg,e9];unfold bin at h;simp only[KT] at h;cases op
   case add=>
    simp only[] at h;split at h
    .injection h with h;subst h;refine⟨.string ⟨(s++D).toArray⟩,?_,by simp[rep]⟩;have B:¬((((⟨s.toArray⟩:ByteArray).size+(⟨D.toArray⟩:ByteArray).size))>IntKind.i64.max):=by
      simp[ByteArray.size];omega
     have e:(⟨s.toArray⟩:ByteArray)++⟨D.toArray⟩=⟨_⟩:=rfl;simp_all[binOp,Op.stringOp]
    grind
   all_goals first
    |grind
    |(simp at h;subst h;simp_all[binOp,Op.stringOp,rep])
  |_=>simp[bin] at h
 |bool b=>cases y with
  |bool c=>
   subst l;subst q;simp[ek,Ez];unfold bin at h;simp at h;split at h
   .injection h with h;subst h;simp_all[binOp,Op.equal,Op.maxDepth,run_equalIn_bool,rep]
   .injection h with h;subst h;simp_all[binOp,Op.equal,Op.maxDepth,run_equalIn_bool,rep]
   grind
  |_=>simp[bin] at h
 |agg xs=>cases y with
  |agg F=>exact Eg (by assumption) l q
  |_=>simp[bin] at h
 |_=>simp[bin] at h
def QC {op:UnOp} {x r:AV} {u:Value} (h:un op x=some r) (l:rep μ x u):∃z,(Op.unary op u).run P w= .ok z w/\rep μ r z:=by
 unfold un at h;split at h
 .injection h with h;subst h;simp_all[rep,Op.unary,Op.intArith]
 .injection h with h;subst h;simp_all[rep,Op.unary]
 grind
def fS {D:Nat} {id:Nat} {e:TypeId} {F:Nat} {xs:List (List AV)} (h:jC D L μ loc w id (.row e F xs)):dO (loc id)=loc id:=by obtain⟨G,l,_⟩:=h;rcases l.2 with⟨q,_⟩|⟨g,z,B,q,_⟩<;>rw[q]<;>rfl
def La {F:Nat} {id:Nat} {k e:TypeId} {D z:List AV} (h:jC F L μ loc w id (.mp k e D z)):dO (loc id)=loc id:=by obtain⟨b,q,l,B,_⟩:=h;rw[B];rfl
def pH {q b:Nat} {xs:List (List AV)} {l:Nat} (h:iI μ q b xs l):∃z,bS μ q xs z/\∀j u,z[j]? =some u->μ b (l+j)=some u:=by induction xs generalizing l with
 |nil=>exact⟨[],rfl,ah⟩
 |cons x xs H=>obtain⟨⟨K,B,D,F,O⟩,G⟩:=h;obtain⟨ws,I,R⟩:=H G;refine⟨_,⟨K,ws,rfl,⟨B,D⟩,F,I⟩,λj u Q=> ?_⟩;grind
def jq {B:Nat} {xs:List (List AV)} {q:List Value} (h:bS μ B xs q):∀u∈q,u.oneCell'=true:=by induction xs generalizing q with
 |nil=>have:q=[]:=h;simp_all
 |cons x xs G=>
  obtain⟨a,b,rfl,z,D,F⟩:=h;intro u l;rcases bn.1 l with l|l
  .exact z.2 u l
  grind
def oH {l:Nat} {xs:List (List AV)} {q:List Value} (h:bS μ l xs q) (n:Nat):bS μ l (xs.take n) (q.take (n *l)):=by induction n generalizing xs q with
 |zero=>simp[bS]
 |succ n F=>cases xs with
  |nil=>simp_all[bS]
  |cons x xs=>obtain⟨G,ws,rfl,z,B,D⟩:=h;refine⟨G,_,?_,z,B,F D⟩;grind[Nat.add_mul]
def wK {l:Nat} {xs:List (List AV)} {q:List Value} (h:bS μ l xs q) (n:Nat):bS μ l (xs.drop n) (q.drop (n *l)):=by induction n generalizing xs q with
 |zero=>simp_all
 |succ n G=>cases xs with
  |nil=>simp_all[bS]
  |cons x xs=>obtain⟨z,ws,rfl,B,D,F⟩:=h;rw[show(n+1) *l=z.length+n *l from by grind,zJ];simp_all
theorem oQ (hR:Rel N w0 μ0 L μ loc st a w) {v:SV} {u:Value} {sz:Nat} {xs:List (List AV)} (q:elems st v=some (sz,xs)) (S:eV μ loc v u):
  ∃A c,u= .slice A xs.length c/\∃F,bS μ sz xs F/\(xs.length=0\/∃ad:Addr,A=some ad/\∀j x,F[j]? =some x->w.cell? (ad.add j)=some x):=by
 cases v with
 |pv v=>cases v with
  |c4 W K=>
   obtain⟨rfl,rfl⟩:=q;obtain⟨A,c,D,_,_,h3⟩:=S;rcases h3 with h0|⟨b,off,rfl,I⟩
   .have :=jc h0;subst this;exact⟨A,c,D,[],rfl, .inl rfl⟩
   .obtain⟨F,k1,k2⟩:=pH I;exact⟨_,c,D,F,k1, .inr ⟨_,rfl,λj u hu=>by rw[add_lit];exact oW (hR.qk _ _ _ (k2 j u hu)) (jq k1 u (aS hu))⟩⟩
  |_=>simp[elems] at q
 |row U=>
  simp[elems] at q;split at q
  .rename_i e' W K z;obtain⟨rfl,rfl⟩:=q;have H:=hR.obs _ _ z;have hb:=fS H;obtain⟨F,l,B,_⟩:=H;have Ny:u=dO _:=S;rcases l.2 with⟨D,e2⟩|⟨g,G,O,D,_⟩
   .grind
   .exact⟨_,G,by simp_all,F,B, .inr ⟨_,rfl,l.cells (g:=g) (by rw[D];rfl)⟩⟩
  simp_all
 |sub U s2 V Q=>
  simp[elems] at q;split at q
  .rename_i e' W K z;cases hq:Nat.beq s2 W with
   |false=>simp_all
   |true=>
   rw[hq] at q;obtain⟨rfl,rfl⟩:=q;obtain⟨F,l,B,_⟩:=hR.obs _ _ z;obtain⟨A,n,c,A',c',h1,h2,h3,h4,h5,h6,h7⟩:=S;have hn:n=K.length:=by rcases l.2 with⟨D,e2⟩|⟨g,G,O,D,_⟩<;>simp_all
   have hl:((K.take Q).drop V).length=Q-V:=aX;refine⟨A',c',by simp_all,_,wK (oH B _) _,?_⟩;by_cases R:V<Q
   .obtain⟨g,eA,eA'⟩:=h7 R;have EJ:=l.cells (by rw[h1,eA];rfl);simp_all[mI,add_lit]
   omega
  simp_all
 |_=>simp[elems] at q
def zW (hR:Rel N w0 μ0 L μ loc st a w) {v:SV} {u:Value} {sz:Nat} {xs:List (List AV)} (h:elems st v=some (sz,xs)) (l:eV μ loc v u):
  ∃A c,u= .slice A xs.length c:=by
 grind[oQ]
def HR (hR:Rel N w0 μ0 L μ loc st a w) {v:SV} {u:Value} {n:Nat} (h:lenOf st v=some n) (z:eV μ loc v u):∃A c,u= .slice A n c:=by
 unfold lenOf at h;split at h
 .obtain⟨A,c,e⟩:=zW hR rfl z;simp_all
 .split at h
  .rename_i e s xs l;injection h with h;subst h;exact zW hR (sz:=s) (by simp[elems,l]) z
  .rename_i e s k H O xs S l;obtain⟨m,Q,R,G,_,q,_⟩:=hR.obs _ _ l;have I:u=m:=(z).trans (by rw[G];rfl);rcases q.2 with⟨F,K⟩|⟨g,B,D,F,_⟩
   .simp_all
   simp_all
  grind
 grind
def fA {r:Nat} {q:Array MapEntry} {l:Nat} (h:w.heap[r]? =some (.map q l)):(getObj r).run P w= .ok (.map q l) w:=by simp[getObj,Sem.run,h]
def BY (hR:Rel N w0 μ0 L μ loc st a w) {v:SV} {u:Value} {z D:List AV} (h:maps st v=some (z,D)) (H:eV μ loc v u):
  (u= .map none/\z=[]/\D=[])\/∃b l q,u= .map (some b)/\w.heap[b]? =some (.map l q)/\bl μ z (l.toList.map (·.key))/\bl μ D (l.toList.map (·.val)):=by
 unfold maps at h;split at h
 .rcases H with H|⟨b,kv,V,rfl,I,K,O⟩
  .simp_all
  .obtain⟨l,q,Q,rfl,rfl⟩:=R9 (hR.qk _ _ _ O);simp_all
 .rename_i id;cases G:st.ob id with
  |none=>simp_all
  |some o=>cases o with
   |box t S=>simp_all
   |row e s R=>simp_all
   |mr k e s B F=>simp_all
   |rn e s k U s' xs R=>simp_all
   |it s n=>simp_all
   |lp s=>simp_all
   |mp k e B F=>have W:=La (hR.obs _ _ G);obtain⟨b,l,q,hl,_,Q,_,I,K,_⟩:=hR.obs _ _ G;simp_all[eV]
 grind
def kD (P:Program) (μ:Mu) (loc:Nat->Value) (o:Oper) (l:SV) (a:Act) (w:World):Prop:=
 ∃v,(execOp a.eval o).run P w= .ok (.value v) w/\eV μ loc l v
def dc {o:Oper} {s:Sem Value} {l:SV} (z:execOp a.eval o=(do pure (.value (<-s)))) {v:Value} (B:s.run P w= .ok v w) (q:eV μ loc l v):kD P μ loc o l a w:=
 ⟨v,by simp_all,q⟩
section
variable (hR:Rel N w0 μ0 L μ loc st a w)
include hR
theorem w5 {o:Oper} {x:Operand} {q:SV} (l:o.op= .move x\/o.op= .assign x) (h:aN P o.type st x=some q):kD P μ loc o q a w:=by refine⟨_,?_,aG hR h⟩;rcases l with l|l<;> · unfold execOp;simp_all
theorem JU {o:Oper} {c x y:Operand} {q:SV} (B:o.op= .pick c x y) (h:c8 P o st=some q):kD P μ loc o q a w:=by
 unfold c8 at h;rw[B] at h;simp at h;split at h
 .rename_i t z;have l:=aG hR z;simp[eV,rep] at l;cases t with
  |true=>refine⟨_,?_,aG hR h⟩;simp_all[execOp,asBool]
  |false=>refine⟨_,?_,aG hR h⟩;simp_all[execOp,asBool]
 grind
theorem MH {o:Oper} {op:BinOp} {t I:TypeId} {x y:Operand} {B:SV} (q:o.op= .binOp op t x y I) (h:c8 P o st=some B):kD P μ loc o B a w:=by
 unfold c8 at h;rw[q] at h;simp at h;split at h
 .rename_i u v F G;cases l:bin P op t u v with
  |none=>simp_all
  |some r=>simp[l] at h;subst h;obtain⟨z,H,D⟩:=Mm l (dD hR F) (dD hR G);exact dc (by unfold execOp;rw[q]) H D
 grind
theorem OM {o:Oper} {op:UnOp} {t:TypeId} {x:Operand} {B:SV} (q:o.op= .unOp op t x) (h:c8 P o st=some B):kD P μ loc o B a w:=by
 unfold c8 at h;rw[q] at h;simp at h;split at h
 .rename_i u F;cases l:un op u with
  |none=>simp_all
  |some r=>simp[l] at h;subst h;obtain⟨z,G,D⟩:=QC l (dD hR F);exact dc (by unfold execOp;rw[q]) G D
 grind
omit hR in
theorem GI {xs:List (List AV)} {G:List UInt8} {F:List Value} (h:bytesOf xs=some G) (z:bS μ 1 xs F):∃D:List Int,F=D.map (Value.int .u8)/\G=D.map λn=>UInt8.ofNat n.toNat:=by induction xs generalizing G F with
 |nil=>simp only[bytesOf,aB] at h;subst h;have:F=[]:=z;subst this;exact⟨[],rfl,rfl⟩
 |cons x xs V=>
  obtain⟨u1,ws,rfl,S,W,U⟩:=z;unfold bytesOf at h;split at h
  .rename_i H;cases H
  .rename_i n l H;injection H with Q R;subst Q;subst R;cases I:bytesOf xs with
   |none=>simp[I] at h
   |some O=>simp[I] at h;subst h;obtain⟨D,rfl,rfl⟩:=V I U;have q:=S.1;rw[bl] at q;obtain⟨y,ys,rfl,K,B⟩:=q;rw[bl] at B;subst B;rw[rep] at K;subst K;exact⟨n::D,by simp,ah⟩
  .cases h
omit hR in
theorem foldl_push (l:List Int):l.foldl (λ(r:ByteArray) n=>r.push (UInt8.ofNat n.toNat)) ByteArray.empty=⟨(l.map λn=>UInt8.ofNat n.toNat).toArray⟩:=by
 have key:∀(l:List Int) (s:ByteArray),l.foldl (λ(r:ByteArray) n=>r.push (UInt8.ofNat n.toNat)) s=⟨s.data++(l.map λn=>UInt8.ofNat n.toNat).toArray⟩:=by intro l;induction l with
  |nil=>intro s;simp
  |cons n l q=>intro s;simp only[ia,q];simp[ByteArray.push]
 rw[key];simp
theorem C8 {o:Oper} {t S:TypeId} {x:Operand} {sv:SV} (G:o.op= .convert t S x) (h:c8 P o st=some sv):kD P μ loc o sv a w:=by
 unfold c8 at h;rw[G] at h;simp only[] at h;split at h
 .rename_i e hu hd;split at h
  .rename_i xs he hsz F;cases hb:bytesOf xs with
   |none=>simp_all
   |some W=>
    simp[hb] at h;subst h;obtain⟨sx,K,H⟩:=bZ.1 F;obtain⟨A,c,R,U,B,D⟩:=oQ hR H (aG hR K);obtain⟨ns,z,l⟩:=GI hb B;have O:=bV B;refine dc (s:=convert t S (a.eval x)) (by unfold execOp;rw[G]) (v:= .string ⟨W.toArray⟩) ?_ (by rfl);have e1:∀v:Value,(∃A n c,v= .slice A n c)->(convert t S v).run P w=(Conv.bytesToString v).run P w:=by rintro v ⟨A,n,c,rfl⟩;simp_all[convert,aU]
    rw[R,e1 _ ⟨_,_,_,rfl⟩];rcases D with h0|⟨V,rfl,hc⟩
    .have:U=[]:=jc af
     subst this;have I:ns=[]:=by cases ns with
      |nil=>rfl
      |cons=>simp at z
     subst I;have l:W=[]:=l;subst l;rw[h0];cases A with
     |none=>rfl
     |some V=>rfl
    .have hl:=uI (P:=P) w V U hc;have q:U.length=xs.length:=by rw[O];simp
     rw[q,z] at hl;rw[run_bytesToString w _ _ c _ hl,l,foldl_push]
  grind
 .split at h
  .rename_i k' n F;injection h with h;subst h;have Q:=dD hR F;rw[rep] at Q;refine dc (by unfold execOp;rw[G]) ?_ (by rfl);simp_all[convert,aU,Conv.intToInt]
  grind
 .split at h
  .rename_i s F;injection h with h;subst h;have Q:=dD hR F;rw[rep] at Q;refine dc (by unfold execOp;rw[G]) ?_ (by rfl);simp_all[convert,aU]
  grind
 grind
theorem uv {b:Bool} {B r:AV} {l:List Operand} {u:Value} (h:jJ P st b B l=some r) (G:rep μ B u):
  ∃v,((l.map a.eval).foldlM (if b then Builtin.max2 else Builtin.min2) u).run P w= .ok v w/\rep μ r v:=by
 induction l generalizing B u with
 |nil=>simp[jJ] at h;simp_all
 |cons x l O=>
  simp[jJ] at h;split at h
  .rename_i v I;split at h
   .rename_i R q;have H:=dD hR I;unfold P3 at q;split at q
    .grind[rep,Builtin.max2,Builtin.min2]
    .rename_i s1 s2;injection q with q;subst q;rw[rep] at G H;subst G;obtain⟨z,K,D⟩:=O h (u:= .string ⟨(bif b then(bif !(Op.bytesLess s1 s2) then s1 else s2) else(bif Op.bytesLess s1 s2||s1==s2 then s1 else s2)).toArray⟩) (by simp[rep]);refine⟨z,?_,D⟩;rw[<-K];simp[aK,H];cases b with
     |true=>cases F:Op.bytesLess _ _<;>simp[Builtin.max2,Op.stringOp,asBool,F]
     |false=>cases F:Op.bytesLess _ _<;>cases Q:s1==s2<;>simp_all[Builtin.min2,Op.stringOp,asBool]
    simp_all
   grind
  grind
theorem zZ {o:Oper} {c:Call} {W:SV} (U:o.op= .call c) (h:sH P c st=some W):kD P μ loc o W a w:=by
 obtain⟨Q,⟨args⟩,⟨F⟩⟩:=c;unfold sH at h;simp only[] at h;split at h
 .rename_i x;split at h
  .rename_i t;split at h
   .rename_i s G B;injection h with h;subst h;have q:=aG hR B;simp only[eV,rep] at q;refine⟨.int .i64 s.length,?_,by rfl⟩;have S:(⟨s.toArray⟩:ByteArray).size=s.length:=rfl;unfold execOp;rw[U];simp[resolve,invoke,builtin,Builtin.len_,aU G,q,goInt,S]
   .rename_i e G B;injection h with h;subst h;have q:=aG hR B;simp only[eV,rep] at q;refine⟨.int .i64 0,?_,by rfl⟩;simp_all[execOp,resolve,invoke,builtin,Builtin.len_,aU,goInt]
   .rename_i e id sz lo hi G B;injection h with h;subst h;obtain⟨A,n,c,A',c',_,hlo,hhi,_,q,_⟩:=aG hR B;refine⟨.int .i64 ((hi-lo:Nat):Int),?_,by rfl⟩;simp_all[execOp,resolve,invoke,builtin,Builtin.len_,aU,goInt]
   .rename_i e v _ _ G B;cases I:lenOf st v with
    |none=>simp_all
    |some y=>simp[I] at h;subst h;obtain⟨A,c,q⟩:=HR hR I (aG hR B);refine⟨.int .i64 y,?_,by rfl⟩;simp_all[execOp,resolve,invoke,builtin,Builtin.len_,aU,goInt]
   .rename_i kt et v G B;cases I:maps st v with
    |none=>simp_all
    |some y=>
     obtain⟨V,vs⟩:=y;simp[I] at h;subst h;refine⟨.int .i64 V.length,?_,by rfl⟩;unfold execOp;rw[U];rcases BY hR I (aG hR B) with⟨q,rfl,rfl⟩|⟨b,H,R,q,hh,h1,h2⟩
     .simp_all[resolve,invoke,builtin,Builtin.len_,aU,goInt]
     .have K:H.size=V.length:=by simpa using kB h1
      simp[resolve,invoke,builtin,Builtin.len_,aU G,q,goInt,fA hh,K]
   grind
  grind
 .rename_i x l;split at h
  .rename_i v q;cases O:jJ P st true v l with
   |none=>simp_all
   |some r=>simp[O] at h;subst h;obtain⟨z,hz,D⟩:=uv hR O (dD hR q);refine⟨z,?_,D⟩;simp_all[execOp,js,resolve,invoke,builtin,Builtin.max_]
  grind
 .rename_i x l;split at h
  .rename_i v q;cases O:jJ P st false v l with
   |none=>simp_all
   |some r=>simp[O] at h;subst h;obtain⟨z,hz,D⟩:=uv hR O (dD hR q);refine⟨z,?_,D⟩;simp_all[execOp,resolve,invoke,builtin,Builtin.min_]
  grind
 grind
omit hR in
theorem zX {t:TypeId} {f:Nat} {q:Field} (h:rq P t f=some q):∃l,P.underlying t=some (.struct l)/\l[f]? =some q:=by
 unfold rq at h;split at h
 .rename_i l z;exact⟨l,z,h⟩
 .cases h
theorem AG {o:Oper} {t:TypeId} {x:Operand} {f:Nat} {O:SV} (B:o.op= .fieldAddr t x f) (h:c8 P o st=some O):kD P μ loc o O a w:=by
 unfold c8 at h;rw[B] at h;simp at h;split at h
 .rename_i R S;obtain⟨fs,hu,U⟩:=zX S;split at h
  .cases h
  .have run:∀D:Addr,(Instr.fieldAt t (.pointer (some D)) f).run P w= .ok (.pointer (some (D.add R.offset))) w:=λD=>by
    simp_all[Instr.fieldAt,aU,Instr.sureAddr,fieldPlace,iq]
   split at h
   .rename_i id z q;injection h with h;subst h;obtain⟨b,I,l⟩:=aG hR q;refine dc (by unfold execOp;rw[B]) (by rw[l];exact run _) ?_;exact⟨b,I,by rw[add_lit]⟩
   .rename_i Q q;injection h with h;subst h;obtain⟨b,z,vs,l,F,W⟩:=aG hR q;refine dc (by unfold execOp;rw[B]) (by rw[l];exact run _) ?_;refine⟨b,_,_,by rw[add_lit],F.drop _,λj v V=> ?_⟩;grind
   .rename_i Q q;injection h with h;subst h;have K:=aG hR q;obtain⟨b,z,vs,l,G,H,W⟩:=K;have F:gV _ _ _:=⟨G,H⟩
    refine dc (by unfold execOp;rw[B]) (by rw[l];exact run _) ?_;refine⟨b,_,_,by rw[add_lit],F.drop _,λj v V=> ?_⟩;grind
   .rename_i id sz i z q;injection h with h;subst h;obtain⟨g,n',c,I,l⟩:=aG hR q;refine dc (by unfold execOp;rw[B]) (by rw[l];exact run _) ?_;exact⟨g,n',c,I,by rw[add_lit,jP]⟩
   grind
  grind
 grind
theorem BN {o:Oper} {x:Operand} {z:SV} (B:o.op= .nilCheck x) (h:c8 P o st=some z):kD P μ loc o z a w:=by
 unfold c8 at h;simp[B] at h;have G:aN P 0 st x=some z/\∃p,a.eval x= .pointer (some p):=by
  split at h
  .rename_i id q l;have:=aG hR l;grind[eV]
  .rename_i D l;have:=aG hR l;grind[eV]
  .rename_i D l;have:=aG hR l;grind[eV,rep]
  .rename_i id H i q l;have:=aG hR l;grind[eV]
  .cases h
 obtain⟨l,p,F⟩:=G;refine dc (s:=pure _) ?_ rfl (aG hR l);simp[execOp,B,F]
theorem Hy {o:Oper} {t:TypeId} {x:Operand} {f:Nat} {F:SV} (B:o.op= .field t x f) (h:c8 P o st=some F):kD P μ loc o F a w:=by
 unfold c8 at h;rw[B] at h;simp at h;split at h
 .rename_i q G K Q;obtain⟨R,U,O⟩:=zX K;cases z:fL P q.type (G.drop q.offset) with
  |none=>simp_all
  |some y=>simp[z] at h;subst h;have D:=dD hR Q;obtain⟨V,D,H,I⟩:=D;obtain⟨v,S,l⟩:=Cm (w:=w) _ z ⟨H,I⟩;refine dc (by unfold execOp;rw[B]) ?_ l;simp_all[Instr.field,aU,asAgg]
 grind
theorem AH {o:Oper} {t:TypeId} {x ix:Operand} {sv:SV} (ho:o.op= .indexAddr t x ix) (h:c8 P o st=some sv):kD P μ loc o sv a w:=by
 unfold c8 at h;rw[ho] at h;simp only[] at h;split at h
 .rename_i n e hu;unfold w6 at h;split at h
  .rename_i s id K k i B S R;split at h
   .rename_i O;obtain⟨Q,G,hpos⟩:=O;injection h with h;subst h;have l:=aG hR R;simp only[eV,rep] at l;obtain⟨b,hl,D⟩:=aG hR S;refine dc (s:=Instr.indexAt t (a.eval x) (a.eval ix)) (by unfold execOp;rw[ho]) (v:= .pointer (some ((⟨b,K,none⟩:Addr).add (i.toNat *s)))) ?_ ?_
    .rw[D,l];have:=iq B w;simp[Instr.indexAt,asIntOf,aU hu,Instr.sureAddr,Q,G,this]
    .exact⟨b,hl,by rw[add_lit]⟩
   grind
  .rename_i s id sz j K k i B S R;split at h
   .rename_i O;obtain⟨Q,G,hpos⟩:=O;injection h with h;subst h;have l:=aG hR R;simp only[eV,rep] at l;obtain⟨g,m,c,hl,D⟩:=aG hR S;refine dc (s:=Instr.indexAt t (a.eval x) (a.eval ix)) (by unfold execOp;rw[ho]) (v:= .pointer (some ((⟨g,j *sz+K,none⟩:Addr).add (i.toNat *s)))) ?_ ?_
    .rw[D,l];have:=iq B w;simp[Instr.indexAt,asIntOf,aU hu,Instr.sureAddr,Q,G,this]
    .exact⟨g,m,c,hl,by rw[add_lit,jP]⟩
   grind
  .rename_i s cs k i B S R;split at h
   .rename_i O;obtain⟨Q,G,hpos⟩:=O;injection h with h;subst h;have l:=aG hR R;simp only[eV,rep] at l;obtain⟨b,K,vs,D,hcs,hm⟩:=aG hR S;refine dc (s:=Instr.indexAt t (a.eval x) (a.eval ix)) (by unfold execOp;rw[ho]) (v:= .pointer (some ((⟨b,K,none⟩:Addr).add (i.toNat *s)))) ?_ ?_
    .rw[D,l];have:=iq B w;simp[Instr.indexAt,asIntOf,aU hu,Instr.sureAddr,Q,G,this]
    .exact⟨b,_,_,by rw[add_lit],hcs.drop _,λq u hq=>by grind⟩
   grind
  grind
 unfold sk at h;split at h
 .rename_i e s sz xs k i hs S R;obtain⟨hu,inf,H,B⟩:=eH hs;split at h
  .rename_i O;obtain⟨rfl,Q⟩:=O;cases hg:xs[i.toNat]? with
   |none=>simp_all
   |some y=>
    simp[hg] at h;subst h;have G:i.toNat<xs.length:=(bp.1 hg).1;have D:=aG hR S;have l:=aG hR R;simp only[eV,rep] at D l;obtain⟨A,c,D,hlc,hcm,V⟩:=D;rcases V with hz|⟨b,K,rfl,V⟩
    .omega
    .obtain⟨vs,hc1,QS,V6⟩:=xz V hg;refine dc (s:=Instr.indexAt t (a.eval x) (a.eval ix)) (by unfold execOp;rw[ho]) (v:= .pointer (some ((⟨b,K,none⟩:Addr).add (i.toNat *s)))) ?_ ?_
     .rw[D,l];have I:i<(xs.length:Int):=by omega
      simp[Instr.indexAt,asIntOf,aU hu,Q,I,sizeOf,typeInfo,H,B]
     .refine⟨b,K+i.toNat *s,vs,by rw[add_lit],hc1,V6⟩
  grind
 .rename_i e s id k i hs S R;obtain⟨hu,inf,H,B⟩:=eH hs;split at h
  .rename_i e' sz xs W;split at h
   .rename_i O;obtain⟨rfl,Q,G⟩:=O;injection h with h;subst h;have D:=aG hR S;have l:=aG hR R;simp only[eV,rep] at D l;rw[fS (hR.obs id _ W)] at D;obtain⟨vs,U,hrc,_⟩:=hR.obs id _ W;obtain⟨g,F,z,_⟩:∃g F,loc id= .slice (some ⟨g,0,none⟩) xs.length F/\True:=by
     rcases U.2 with⟨_,e2⟩|⟨g,F,cur,e1,_⟩
     .omega
     simp_all
    refine dc (s:=Instr.indexAt t (a.eval x) (a.eval ix)) (by unfold execOp;rw[ho]) (v:= .pointer (some ((⟨g,0,none⟩:Addr).add (i.toNat *s)))) ?_ ?_
    .rw[D,l,z];have I:i<(xs.length:Int):=by omega
     simp[Instr.indexAt,asIntOf,aU hu,Q,I,sizeOf,typeInfo,H,B]
    .exact⟨g,_,F,by rw[z];rfl,by rw[add_lit];simp⟩
   grind
  .rename_i e' sz k e2 s2 xs ys W;split at h
   .rename_i O;obtain⟨rfl,Q,G⟩:=O;injection h with h;subst h;have D:=aG hR S;have l:=aG hR R;simp only[eV,rep] at D l;obtain⟨m,us,vs,hl,_,U,_⟩:=hR.obs id _ W;rw[hl] at D;replace D:a.eval x=m:=D;obtain⟨g,F,z,_⟩:∃g F,m= .slice (some ⟨g,0,none⟩) xs.length F/\True:=by
     rcases U.2 with⟨_,e2⟩|⟨g,F,cur,e1,_⟩
     .omega
     simp_all
    refine dc (s:=Instr.indexAt t (a.eval x) (a.eval ix)) (by unfold execOp;rw[ho]) (v:= .pointer (some ((⟨g,0,none⟩:Addr).add (i.toNat *s)))) ?_ ?_
    .rw[D,l,z];have I:i<(xs.length:Int):=by omega
     simp[Instr.indexAt,asIntOf,aU hu,Q,I,sizeOf,typeInfo,H,B]
    .exact⟨g,_,F,by rw[hl];exact z,by rw[add_lit];simp⟩
   grind
  grind
 .rename_i e s id sz lo hi' k i hs S R;obtain⟨hu,inf,H,B⟩:=eH hs;split at h
  .rename_i O;obtain⟨rfl,Q,G⟩:=O;injection h with h;subst h;have l:=aG hR R;simp[eV,rep] at l;obtain⟨A,n,c,A',c',z,hlo,hhi,Vk,D,_,hg⟩:=aG hR S;obtain⟨g,rfl,rfl⟩:=hg af;refine dc (by unfold execOp;rw[ho]) (v:= .pointer (some ((⟨g,lo *s,none⟩:Addr).add (i.toNat *s)))) ?_ ?_
   .simp_all[Instr.indexAt,asIntOf,aU,sizeOf,typeInfo]
   .exact⟨g,_,c,by rw[z];rfl,by grind[add_lit]⟩
  grind
 grind
theorem Hz {o:Oper} {t:TypeId} {x K:Operand} {D:SV} (B:o.op= .index t x K) (h:c8 P o st=some D):kD P μ loc o D a w:=by
 unfold c8 at h;rw[B] at h;simp at h;split at h
 .rename_i s k i Q I G;split at h
  .cases z:s[i.toNat]? with
   |none=>simp_all
   |some b=>
    simp[z] at h;subst h;have H:=aG hR I;have l:=aG hR G;simp[eV,rep] at H l;refine dc (by unfold execOp;rw[B]) ?_ (by rfl);have q:=(bp.1 z)
    obtain⟨O,F⟩:=q
    have:(⟨s.toArray⟩:ByteArray)[i.toNat]? =some b:=by rw[getElem?_pos _ _ _];show some s.toArray[i.toNat]=some b;simp[F]
    simp_all[Instr.index,asIntOf,aU]
  grind
 grind
theorem JT {o:Oper} {t:TypeId} {x:Operand} {sv:SV} (ho:o.op= .load t x) (h:c8 P o st=some sv):kD P μ loc o sv a w:=by
 have start:∀(ad:Addr),a.eval x= .pointer (some ad)->∀v,(loadVar t ad).run P w= .ok v w->∀sv,eV μ loc sv v->kD P μ loc o sv a w:=λad H v O sv hs=>dc (s:=Instr.loadAt t (a.eval x)) (by unfold execOp;rw[ho]) (v:=v) (by simp_all[Instr.loadAt,Instr.sureAddr]) hs
 unfold c8 at h;rw[ho] at h;simp only[] at h;split at h
 .rename_i cs I;cases K:fL P t cs with
  |none=>simp_all
  |some y=>simp[K] at h;subst h;obtain⟨b,l,D,H,R,hm⟩:=aG hR I;obtain⟨v,O,z⟩:=nK (w:=w) (ad:=⟨b,l,none⟩) K R (λj u B=>by rw[add_lit];exact oW (hR.qk _ _ _ (hm j u B)) (R.2 u (aS B)));exact start _ H v O _ z
 .rename_i cs I;cases K:fL P t cs with
  |none=>simp_all
  |some y=>
   simp[K] at h;subst h;have hx':=aG hR I;simp only[eV,rep] at hx';obtain⟨b,l,D,H,S,QS,hm⟩:=hx';have R:gV μ cs D:=⟨S,QS⟩
   obtain⟨v,O,z⟩:=nK (w:=w) (ad:=⟨b,l,none⟩) K R (λj u B=>by rw[add_lit];exact oW (hR.qk _ _ _ (hm j u B)) (R.2 u (aS B)));exact start _ H v O _ z
 .rename_i id sz i l I;split at h
  .rename_i e sz' xs F;split at h
   .rename_i hsz;subst hsz;cases hg:xs[i]? with
    |none=>simp_all
    |some c=>cases K:fL P t (c.drop l) with
     |none=>simp_all
     |some y=>
      simp[hg,K] at h;subst h;obtain⟨g,n,cp,V,H⟩:=aG hR I;rw[fS (hR.obs id _ F)] at V;obtain⟨D,G,hrc,_⟩:=hR.obs id _ F;obtain⟨us,S,QS,V6⟩:=Ft hrc hg;have q:=G.cells (g:=g) (by rw[V];rfl)
      obtain⟨v,O,z⟩:=nK (w:=w) (ad:=⟨g,i *sz+l,none⟩) K (S.drop l) (λj u B=>by
       rw[qV] at B;have:=q _ _ (V6 _ _ B);rw[add_lit] at this⊢
       rwa[show 0+(i *sz+(l+j))=i *sz+l+j from by omega] at this)
      exact start _ H v O _ z
   grind
  .rename_i e sz' k e' s' xs ys F;split at h
   .rename_i R;obtain⟨rfl,rfl,hi,hagg⟩:=R;injection h with h;subst h;obtain⟨g,n,cp,V,H⟩:=aG hR I;obtain⟨m,us,D,QT,hm,G,hrc,hk,h2,h3,h4,h5,h6,h7⟩:=hR.obs id _ F;have BP:m= .slice (some ⟨g,0,none⟩) n cp:=by rw[QT] at V;exact V
    have q:=G.cells (g:=g) (by rw[BP];rfl);have hlt:i *sz+l<D.length:=by rw[bV hrc];have:=jd sz (show i+1<=xs.length from hi);rw[hU,Nat.one_mul] at this;have:=hk.1;omega
    obtain⟨u,B⟩:∃u,D[i *sz+l]? =some u:=⟨D[i *sz+l],aW hlt⟩
    have hcu:=q _ _ B;rw[add_lit,fW] at hcu;refine start _ H u (by simp_all[loadVar,mS]) _ ?_;refine⟨m,us,QT,⟨_,_,_,BP⟩,λx I=> ?_⟩;cases hy:ys[i]? with
    |none=>simp_all
    |some y=>cases y with
     |none=>grind
     |some zs=>grind
   grind
  grind
 .rename_i id l I;obtain⟨b,V,H⟩:=aG hR I;split at h
  .rename_i bt cells F;obtain⟨b',D,W,hnF,U,uq,hss,h1⟩:=hR.obs id _ F;rw[V] at W;simp only[uJ,aB,uK,dL] at W;subst W;have hcell:∀j,w.cell? ⟨b,j,none⟩=D[j]? :=λj=>by rw[cell_of_row w b j D.toArray bt _ U];simp
   split at h
   .split at h
    .obtain⟨v,Vm,O⟩:=DX hss h;simp_all[loadVar,mS]
    grind
   .split at h
    .rename_i n hsz;split at h
     .have Q:=xB (xA hss l) n;have hlen:=lN hss;have QT:((D.drop l).take n).length=n:=aX;have O:=uI (P:=P) w ⟨b,l,none⟩ ((D.drop l).take n) (λj v hj=>by simp_all[add_lit,mI]);cases hp:kF ((cells.drop l).take n) with
      |none=>
       simp[hp,bg] at h;obtain⟨ks,hk,rfl⟩:=h;refine start _ H (.agg ((D.drop l).take n).toArray) ?_ _ ?_
       .simp_all[loadVar,mS,iq]
       .exact⟨_,rfl,GG hk Q,λu B=>h1 u (tH (wS B))⟩
      |some cs=>
       simp[hp] at h;subst h;refine start _ H (.agg ((D.drop l).take n).toArray) ?_ _ ?_
       .simp_all[loadVar,mS,iq]
       .exact⟨_,rfl,zS hp Q,λu B=>h1 u (tH (wS B))⟩
     grind
    grind
   grind
  grind
 grind
theorem gd {q:Option Operand} {B:Option SV} {d y r:Nat} (l:j8 P st q=some B) (h:fq B d y=some r) (code:BoundsCode):
  (q=none/\r=d)\/∃x,q=some x/\(Instr.sliceBound (a.eval x) y code).run P w= .ok r w/\r<=y:=by
 cases q with
 |none=>simp[j8,aB] at l;subst l;simp[fq] at h;simp_all
 |some x=>simp[j8] at l;cases z:aN P 0 st x with
  |none=>simp_all
  |some F=>simp[z] at l;subst l;have D:=aG hR z;cases F with
   |pv v=>cases v with
    |int k i=>
     simp only[fq] at h;split at h
     .injection h with h;subst h;simp[eV,rep] at D;simp_all[Instr.sliceBound,asIntOf]
     grind
    |_=>simp[fq] at h
   |_=>simp[fq] at h
omit hR in
theorem yg (s:List UInt8) (l h:Nat) (z:l<=h) (q:h<=s.length):(⟨s.toArray⟩:ByteArray).extract l h=⟨((s.take h).drop l).toArray⟩:=by apply ByteArray.ext;simp[ByteArray.data_extract,List.extract_eq_take_drop,zK]
theorem Fx {t e:TypeId} {s:Nat} {x:Operand} {V G:Option Operand} {W S:Option SV} {A:Option Addr} {m c B l:Nat} (hu:P.underlying t=some (.slice e)) (I:iO P e=some s) (RL:a.eval x= .slice A m c) (hlc:m<=c)
  (H:j8 P st V=some W) (z:j8 P st G=some S) (q:fq S m m=some B) (D:fq W 0 B=some l):
  (Instr.sliceAt t (a.eval x) (V.map a.eval) (G.map a.eval) none).run P w= .ok (.slice (if c=l then A else A.map (·.add (l *s))) (B-l) (c-l)) w:=by
 obtain⟨inf,R,hs⟩:∃i,P.info? e=some i/\i.size=s:=by unfold iO at I;simp_all
 have Q:B<=m:=by rcases gd hR z q .sliceAcap with⟨_,e⟩|⟨_,_,_,e⟩<;>omega
 have hlh:l<=B:=by rcases gd hR H D .sliceB with⟨_,e⟩|⟨_,_,_,e⟩<;>omega
 have F:G=none/\B=m\/∃y,G=some y/\(Instr.sliceBound (a.eval y) c .sliceAcap).run P w= .ok B w:=by cases G with
  |none=>
   rcases gd hR z q .sliceAcap with⟨_,e⟩|⟨_,e,_⟩
   .simp_all
   grind
  |some y=>refine .inr ⟨y,rfl,?_⟩;simp[j8] at z;cases U:aN P 0 st y with
   |none=>simp_all
   |some O=>simp[U] at z;subst z;have K:=aG hR U;cases O with
    |pv v=>cases v with
     |int k i=>
      simp only[fq] at q;split at q
      .simp[eV,rep] at K
       have:i<=(c):=af
       simp_all[Instr.sliceBound,asIntOf]
      simp_all
     |_=>simp[fq] at q
    |_=>simp[fq] at q
 rcases F with⟨rfl,rfl⟩|⟨xh,rfl,rh⟩<;>
 rcases gd hR H D .sliceB with⟨rfl,rfl⟩|⟨xl,rfl,rl,_⟩<;>
 simp[Instr.sliceAt,Instr.slice,aU _,Instr.sliceBounds,sizeOf,typeInfo, *]
theorem Dv {K I:Option Operand} {H G:Option SV} {m q l:Nat} (F:j8 P st K=some H) (D:j8 P st I=some G) (z:fq G m m=some q) (B:fq H 0 q=some l):q<=m/\l<=q:=by
 constructor
 .rcases gd hR D z .sliceAcap with⟨_,e⟩|⟨_,_,_,e⟩<;>omega
 .rcases gd hR F B .sliceB with⟨_,e⟩|⟨_,_,_,e⟩<;>omega
theorem HA {o:Oper} {t:TypeId} {x:Operand} {lo hi:Option Operand} {sv:SV} (ho:o.op= .slice t x lo hi none) (h:c8 P o st=some sv):kD P μ loc o sv a w:=by
 unfold c8 at h;rw[ho] at h;simp only[] at h;split at h
 .rename_i s W hv R V F D;split at h
  .rename_i H B;cases z:fq W 0 H with
   |none=>simp_all
   |some l=>
    simp[z] at h;subst h;have G:=aG hR V;simp only[eV,rep] at G;have I:H<=s.length:=by rcases gd hR D B .sliceAlen with⟨_,e⟩|⟨_,_,_,e⟩<;>omega
    have Q:l<=H:=by rcases gd hR F z .sliceB with⟨_,e⟩|⟨_,_,_,e⟩<;>omega
    refine dc (s:=Instr.sliceAt t (a.eval x) (lo.map a.eval) (hi.map a.eval) none) (by unfold execOp;simp_all) (v:= .string ⟨((s.take H).drop l).toArray⟩) ?_ (by rfl);rw[G];have U:(⟨s.toArray⟩:ByteArray).size=s.length:=rfl;have hex:=yg s l H Q I;rcases gd hR D B .sliceAlen with⟨rfl,rfl⟩|⟨xh,rfl,rh,_⟩<;>
    rcases gd hR F z .sliceB with⟨rfl,rfl⟩|⟨xl,rfl,rl,_⟩<;>
    simp_all[Instr.sliceAt,Instr.slice,aU R,Instr.sliceBounds]
  grind
 .rename_i e sz xs W hv R V F D;split at h
  .rename_i e' s H hs B;obtain⟨q,inf,O,U⟩:=eH hs;rw[R] at q;injection q with q;injection q with q;subst q;split at h
   .rename_i e;subst e;cases z:fq W 0 H with
    |none=>simp_all
    |some l=>
     simp[z] at h;subst h;have G:=aG hR V;simp only[eV,rep] at G;obtain⟨A,c,G,hlc,hcm,S⟩:=G;have I:H<=xs.length:=by rcases gd hR D B .sliceAcap with⟨_,e⟩|⟨_,_,_,e⟩<;>omega
     have Q:l<=H:=by rcases gd hR F z .sliceB with⟨_,e⟩|⟨_,_,_,e⟩<;>omega
     refine dc (s:=Instr.sliceAt t (a.eval x) (lo.map a.eval) (hi.map a.eval) none) (by unfold execOp;simp_all)
      (v:= .slice (if c=l then A else A.map (·.add (l *s))) (H-l) (c-l)) ?_ ?_
     .grind[Fx,iO]
     .show rep μ (.c4 s ((xs.take H).drop l)) _;rw[rep];have hlen:((xs.take H).drop l).length=H-l:=aX;refine⟨_,_,by rw[hlen],by omega,by omega,?_⟩;rcases S with hz|⟨b,off,rfl,S⟩
      .omega
      .by_cases hc:c=l
       .omega
       .refine .inr ⟨b,off+l *s,by rw[az hc];simp[add_lit],?_⟩;simp_all[IA,IB]
   grind
  grind
 .rename_i e id W hv R V F D;split at h
  .rename_i e' s e2 sz xs hs qq;obtain⟨q,inf,O,U⟩:=eH hs;rw[R] at q;injection q with q;injection q with q;subst q;split at h
   .rename_i H B;split at h
    .rename_i e;subst e;cases z:fq W 0 H with
     |none=>simp_all
     |some l=>
      simp[z] at h;subst h;have G:a.eval x=loc id:=(aG hR V:a.eval x=dO (loc id)).trans (fS (hR.obs id _ qq));obtain⟨I,Q⟩:=Dv hR F D B z;obtain⟨vs,hown,hrc,_⟩:=hR.obs id _ qq;obtain⟨A,c,K,hlc,hA⟩:∃A c,loc id= .slice A xs.length c/\xs.length<=c/\(0<xs.length->∃g,A=some ⟨g,0,none⟩):=by
       rcases hown.2 with⟨e1,e2⟩|⟨g,cap,cur,e1,h2,h3,h4⟩
       .simp_all
       grind
      refine dc (s:=Instr.sliceAt t (a.eval x) (lo.map a.eval) (hi.map a.eval) none) (by unfold execOp;simp_all)
       (v:= .slice (if c=l then A else A.map (·.add (l *s))) (H-l) (c-l)) (Fx hR R (by rw[iO,O];grind) (G.trans K) hlc F D B z) ?_
      refine⟨A,_,c,_,_,K,Q,I,by omega,rfl,λe=> ?_,λhlt=> ?_⟩
      .simp_all[add_zero']
      .obtain⟨g,rfl⟩:=hA af;refine⟨g,rfl,?_⟩;rw[az af];simp[add_lit]
    grind
   grind
  grind
 .rename_i e id sz a' b' W hv R V F D;split at h
  .rename_i e' s H hs B;obtain⟨q,inf,O,U⟩:=eH hs;rw[R] at q;injection q with q;injection q with q;subst q;split at h
   .rename_i e;subst e;cases z:fq W 0 H with
    |none=>simp_all
    |some l=>
     simp[z] at h;subst h;obtain⟨A,n,c,A',c',K,hl1,QT,Vk,G,hz,hg⟩:=aG hR V;obtain⟨I,Q⟩:=Dv hR F D B z;refine dc (by unfold execOp;simp_all)
      (v:= .slice (if c'=l then A' else A'.map (·.add (l *s))) _ _) (Fx hR R (by rw[iO];grind) G Vk F D B z) ?_
     refine⟨A,_,c,(if c'=l then A' else A'.map (·.add (l *s))),c'-l,K,by omega,by omega,by omega,by grind,λe=> ?_,λhlt=> ?_⟩
     .simp_all[add_zero']
     .obtain⟨g,rfl,rfl⟩:=hg af;rw[az af];simp[add_lit,hU]
   grind
  grind
 grind
theorem Da {o:Oper} {x:Operand} {i:Nat} {G:SV} (z:o.op= .extract x i) (h:c8 P o st=some G):kD P μ loc o G a w:=by
 unfold c8 at h;rw[z] at h;simp at h;split at h
 .rename_i H D;cases F:H[i]? with
  |none=>simp_all
  |some y=>simp[F] at h;subst h;have q:=aG hR D;obtain⟨K,q,l⟩:=q;obtain⟨u,I,B⟩:=ow l F;refine dc (by unfold execOp;rw[z]) ?_ B;simp_all[Instr.extract]
 .rename_i v b D;obtain⟨u,q,B⟩:=aG hR D;split at h
  .injection h with h;subst h;refine dc (by unfold execOp;rw[z]) ?_ B;rw[q];rfl
  .injection h with h;subst h;refine dc (by unfold execOp;rw[z]) ?_ (by rfl);rw[q];rfl
  grind
 grind
omit hR in
theorem vH {F:List TypeId} {l:List Value} {z:List AV} (h:kj P F l=some z):gV μ z l:=by induction F generalizing l z with
 |nil=>cases l with
  |nil=>simp[kj] at h;subst h;exact⟨cF,ah⟩
  |cons v l=>simp[kj] at h
 |cons t F H=>cases l with
  |nil=>simp[kj] at h
  |cons v l=>
   simp only[kj] at h;split at h
   .rename_i x xs q D;injection h with h;subst h;have G:=rE (P:=P) (μ:=μ) q;have k:=H D;refine⟨bq G k.1,λu B=> ?_⟩;rcases aD.1 B with rfl|B
    .unfold ofConst at q;split at q<;>first|rfl|(cases q)
    .exact k.2 u B
   .cases h
omit hR in
theorem IY {F:List TypeId} {q:List Value} {B:List AV} (h:kj P F q=some B) {k s:Nat} (z:B[k]? =some (.c4 s [])):∃v,q[k]? =some v/\v= .slice none 0 0:=by induction F generalizing q B k with
 |nil=>cases q with
  |nil=>simp[kj] at h;subst h;simp at z
  |cons v q=>simp[kj] at h
 |cons t F I=>cases q with
  |nil=>simp[kj] at h
  |cons v q=>
   simp only[kj] at h;split at h
   .rename_i x xs l D;injection h with h;subst h;cases k with
    |zero=>
     simp at z;subst z;refine⟨v,rfl,?_⟩;unfold ofConst at l;split at l
     .cases l
     .cases l
     .cases l
     .rfl
     .cases l
     .cases l
     .split at l<;>cases l
     .cases l
    |succ k=>obtain⟨K,G,H⟩:=I D (by simpa using z);exact⟨K,by simpa using G,H⟩
   .cases h
omit hR in
theorem Iw {z:List AV}:∀{k:Nat} {q:List Value} {u:Value} {a:AV},bl μ z q->q[k]? =some u->rep μ a u->bl μ (z.set k a) q:=by induction z with
 |nil=>intro k q u a h l _;simp only[bl] at h;subst h;simp at l
 |cons c z H=>intro k q u a h l D;obtain⟨v,F,rfl,G,B⟩:=h;cases k with
  |zero=>simp at l;subst l;exact⟨v,F,rfl,D,B⟩
  |succ k=>exact⟨v,F,rfl,G,H B (by simpa using l) D⟩
omit hR in
theorem mj {t:TypeId} {z:List AV} (h:zeroCells P t=some z):∃i v,P.info? t=some i/\i.zero=some v/\gV μ z v.cells.toList:=by
 unfold zeroCells at h;split at h
 .rename_i i l;split at h
  .rename_i v q;exact⟨i,v,l,q,vH h⟩
  .cases h
 .cases h
theorem rW {ty:Nat->TypeId} {l:List (Nat×Operand)} {q:List (Nat×AV)} (h:partsOf P ty st l=some q):
  q.map (·.1)=l.map (·.1)/\bl μ (q.map (·.2)) (l.map λp=>a.eval p.2):=by
 induction l generalizing q with
 |nil=>simp[partsOf] at h;subst h;exact⟨rfl,cF⟩
 |cons p l z=>grind[partsOf,bq,dD]
omit hR in
theorem Aw (z:List Value):∀(l:List Value) (q k:Nat),q+k+l.length<=z.length->
  ((l.zipIdx k).foldl (λ(B:Array Value) (p:Value×Nat)=>B.setIfInBounds (q+p.2) p.1) z.toArray)=(z.take (q+k)++l++z.drop (q+k+l.length)).toArray:=by
 intro l;induction l generalizing z with
 |nil=>intro q k h;simp
 |cons v l F=>intro q k h;simp only[List.zipIdx_cons,ia];simp only[aT] at h;have D:z.toArray.setIfInBounds (q+k) v=(z.set (q+k) v).toArray:=ah;rw[D,F (z.set (q+k) v) q (k+1) aX];congr 1;rw[<-jP,List.take_succ_eq_append_getElem aX];simp only[List.getElem_set_self,List.take_set_of_le (aJ _),aT];rw[List.drop_set_of_lt af];simp only[eo,eM,er];congr 4;omega
omit hR in
theorem wZ {place:Nat->Option (Nat×Nat)} {cells S:List AV} {H:List Value} {G:List (Nat×AV)} {us:List (Nat×Value)}
  (h:sg place cells G=some S) (Q:gV μ cells H) (F:G.map (·.1)=us.map (·.1)) (O:bl μ (G.map (·.2)) (us.map (·.2))) (U:∀p∈G,∀x,p.2≠ .jy x):
  ∃ws:List Value,Instr.fill place H.toArray us=some ws.toArray/\gV μ S ws:=by
 induction G generalizing cells H us with
 |nil=>cases us with
  |nil=>simp[sg] at h;subst h;exact⟨H,by simp[Instr.fill],Q⟩
  |cons u us=>simp at F
 |cons p G ih=>cases us with
  |nil=>simp at F
  |cons u us=>
   obtain⟨i,x⟩:=p;obtain⟨i',y⟩:=u;simp only[aK,cU] at F;obtain⟨rfl,F⟩:=F;simp only[aK,bl] at O;obtain⟨u',us',e,hx,O⟩:=O;simp only[cU] at e;obtain⟨rfl,rfl⟩:=e;simp only[sg] at h;split at h
   .cases h
   .rename_i l size R;split at h
    .rename_i B;have K:=DY hx (λz=>U (i,x) ah z);have q:y.cells.size=size:=by
      have:=K.length;simpa[B.1] using this
     have hvl:=Q.length;have D:=((Q.take l).append K).append (Q.drop (l+size));obtain⟨ws,hw,hr⟩:=ih h D F O (λp W=>U p (by simp[W]));refine⟨ws,?_,hr⟩;simp only[Instr.fill,R];have V:¬(l+y.cells.size>H.toArray.size):=aX;rw[az (by simp[q];omega)];rw[<-hw];congr 1;have I:=Aw H y.cells.toList l 0 aX;simp only[oK,zL,q] at I;rw[<-I,<-Array.foldl_toList,Gx]
    .cases h
omit hR in
theorem run_places (l:List Field) (q:l.all (λf=>(iO P f.type).isSome)=true):
  (l.mapM (λf=>Functor.map (Prod.mk f.offset) (sizeOf f.type)):Sem (List (Nat×Nat))).run P w= .ok (l.map λf=>(f.offset,(iO P f.type).getD 0)) w:=by
 induction l with
 |nil=>rfl
 |cons f l B=>simp only[ic,aF] at q;obtain⟨n,z⟩:=kK.1 q.1;simp[uL,iq z,z,B q.2]
omit hR in
theorem Av {t:List TypeId}:∀{F:List Nat} {z B:List AV} {q:List Value},kj P t q=some z->yR F z=some B->gV μ B q
 |[],z,B,q,h,l=>by simp only[yR,aB] at l;subst l;exact vH h
 |k::F,z,B,q,h,l=>by
  simp only[yR] at l;split at l
  .rename_i s H;obtain⟨K,G,rfl⟩:=bg.1 l;have D:=Av h G;obtain⟨v,I,e⟩:=IY h H;subst e;refine⟨?_,D.2⟩;have:=Iw D.1 I (a:= .nw) (by simp[rep]);exact this
  .cases l
omit hR in
theorem D9 {h:Hint} {d:Option Nat} {t:TypeId} {z:List AV} (q:D8 P h d t=some z):∃i v,P.info? t=some i/\i.zero=some v/\gV μ z v.cells.toList:=by
 unfold D8 at q;split at q
 .rename_i H G;obtain⟨I,l,B⟩:=bZ.1 q;unfold zeroCells at l;split at l
  .rename_i i D;split at l
   .rename_i v F;exact⟨i,v,D,F,Av l B⟩
   .cases l
  .cases l
 .exact mj q
theorem wC {o:Oper} {V:Option (List AV)} {t:TypeId} {l:Array (Nat×Operand)} {U:SV} (G:∀z,V=some z->∃i v,P.info? t=some i/\i.zero=some v/\gV μ z v.cells.toList) (S:o.op= .build t l) (h:tK P V t l st=some U):kD P μ loc o U a w:=by
 unfold tK at h;split at h
 .rename_i W hu;split at h
  .rename_i z Q B;split at h
   .rename_i q;obtain⟨q,K⟩:=q;cases D:sg (kS P t) z Q with
    |none=>simp_all
    |some R=>
     simp[D] at h;subst h;obtain⟨i,v,hi,hv,I⟩:=G z rfl;obtain⟨h1,h2⟩:=rW hR B
     obtain⟨ws,hw,F⟩:=wZ (us:=l.toList.map λp=>(p.1,a.eval p.2)) D I (by simp_all) (by simp_all[dw,jQ]) (λp O x e=>by
      have:=cH.1 q p O
      rw[e] at this;cases this)
     refine dc (s:=Instr.build t (l.map λp=>(p.1,a.eval p.2))) (by unfold execOp;rw[S]) (v:= .agg ws.toArray) ?_ ?_
     .obtain⟨H⟩:=W;have LA:=run_places (w:=w) H K;have hpe:(λx=>Option.map (λf:Field=>(f.offset,(iO P f.type).getD 0)) H[x]?)=kS P t:=by
       funext x;simp only[kS,rq,hu,zM];cases hx:H[x]? with
       |none=>rfl
       |some fd=>grind[Option.isSome_iff_exists,List.all_eq_true,List.mem_of_getElem?]
      simp_all[Array.toArray_toList,Instr.build,zeroValue,typeInfo,aU]
     .show rep μ (.agg R) _;exact⟨ws,rfl,F.1,F.2⟩
   grind
  grind
 .split at h
  .rename_i z Q s B hs;split at h
   .rename_i q;cases D:sg (λi=>some (i *s,s)) z Q with
    |none=>simp_all
    |some R=>
     simp[D] at h;subst h;obtain⟨i,v,hi,hv,I⟩:=G z rfl;obtain⟨h1,h2⟩:=rW hR B
     obtain⟨ws,hw,F⟩:=wZ (us:=l.toList.map λp=>(p.1,a.eval p.2)) D I (by simp_all) (by simp_all[jQ]) (λp O x e=>by
      have:=cH.1 q p O
      rw[e] at this;cases this)
     refine dc (by unfold execOp;rw[S]) (v:= .agg ws.toArray) ?_ ?_
     .simp_all[Instr.build,zeroValue,typeInfo,aU,iq]
     .exact⟨ws,rfl,F.1,F.2⟩
   grind
  grind
 grind
theorem Hx {o:Oper} {B:Hint} {t:TypeId} {l:Array (Nat×Operand)} {q:SV} (D:o.op= .build t l) (h:tK P (D8 P B o.dst t) t l st=some q):kD P μ loc o q a w:=
 wC hR (λz F=>D9 F) D h
omit hR in
theorem C7 {q:TypeDesc} {W:TypeId} (R:P.underlying W=some q) {key:AV} {Q:Value} (K:rep μ key Q) (B:gF P W key=true):∀{H:List AV} {l:List MapEntry} {r:Option Nat} (i:Nat),bl μ H (l.map (·.key))->lR key H=some r->
  (match r with
  |some j=>∃e,l[j]? =some e/\Instr.findNow q Q l i=some (some (i+j,e.val))/\∃x,H[j]? =some x/\rz key x=some true
  |none=>Instr.findNow q Q l i=some none):=by
 intro H;induction H with
 |nil=>
  intro l r i h z;simp only[lR,aB] at z;subst z;rw[bl] at h
  have:l=[]:=by simpa using h
  subst this;rfl
 |cons x H ih=>intro l r i h z;rw[bl] at h;obtain⟨u,us,e,F,G⟩:=h;cases l with
  |nil=>simp at e
  |cons U l=>
   simp only[aK,cU] at e;obtain⟨rfl,rfl⟩:=e;have same:∀b,rz key x=some b->Instr.sameNow q Q U.key=some b:=by
    intro b I;unfold rz at I;split at I
    .rename_i s t;rw[rep] at K F;rw[K,F];simp only[gF,R] at B;cases q<;>simp at B;simp only[Instr.sameNow,Qz];exact I
    .rename_i k s k' t;rw[rep] at K F;rw[K,F];simp only[gF,R] at B;cases q<;>simp at B;simp only[Instr.sameNow];exact I
    .rename_i s t;rw[rep] at K F;rw[K,F];simp only[gF,R] at B;cases q<;>simp at B;simp only[Instr.sameNow];exact I
    .cases I
   simp only[lR] at z;split at z
   .rename_i O;injection z with z;subst z;have D:=same _ O;exact⟨U,rfl,by simp only[Instr.findNow,D];simp,x,rfl,O⟩
   .rename_i O;have D:=same _ O;cases S:lR key H with
    |none=>simp[S] at z
    |some r'=>simp[S] at z;subst z;have V:=ih (i+1) G S;cases r' with
     |none=>simp only[Option.map_none,Instr.findNow,D];exact V
     |some j=>obtain⟨e,he,z,F⟩:=V;exact⟨e,by simpa using he,by simp only[Instr.findNow,D,z];congr 3;omega,by simpa using F⟩
   .cases z
omit hR in
theorem fT {B:TypeId} {key:AV} {D:Value} (q:rep μ key D) (l:gF P B key=true) (b:Bool) (w:World):(Instr.checkKey b 10000 B D).run P w= .ok () w:=by
 have key:∀n,(Instr.checkKey b (n+1) B D).run P w= .ok () w:=by
  intro n;unfold gF at l;split at l
  .rename_i z;rw[rep] at q;subst q;simp[Instr.checkKey,aU z]
  .rename_i z;rw[rep] at q;subst q;simp[Instr.checkKey,aU z]
  .rename_i z;rw[rep] at q;subst q;simp[Instr.checkKey,aU z]
  .cases l
 exact key 9999
omit hR in
theorem Kg {z:TypeId} {key:AV} (l:gF P z key=true):∃q,P.underlying z=some q:=by
 unfold gF at l;split at l
 .exact⟨_, ‹_›⟩
 .exact⟨_, ‹_›⟩
 .exact⟨_, ‹_›⟩
 .cases l
omit hR in
theorem kN {B:TypeId} {key:AV} {D:Value} (I:rep μ key D) (l:gF P B key=true) {ks:List AV} {j7:List MapEntry} {r:Option Nat} (h:bl μ ks (j7.map (·.key))) (H:lR key ks=some r) (w:World):
  match r with
  |some j=>∃e,j7[j]? =some e/\(Instr.findKey B D j7).run P w= .ok (some (j,e.val)) w/\∃x,ks[j]? =some x/\rz key x=some true
  |none=>(Instr.findKey B D j7).run P w= .ok none w:=by
 obtain⟨F,z⟩:=Kg l;have q:=C7 z I l 0 h H;cases r with
 |none=>simp only[] at q⊢;simp[Instr.findKey,aU z,q]
 |some j=>obtain⟨e,G,K,O⟩:=q;exact⟨e,G,by simp[Instr.findKey,aU z,K],O⟩
omit hR in
theorem vI {t:TypeId} {z:AV} (h:lQ P t=some z) (w:World):∃v,(zeroValue t).run P w= .ok v w/\rep μ z v:=by
 unfold lQ at h;split at h
 .rename_i i G;have l:∀v,i.zero=some v->(zeroValue t).run P w= .ok v w:=λv H=>by simp[zeroValue,typeInfo,G,H]
  split at h
  .rename_i D B;cases q:kj P (rf P 8 t) D.toList with
   |none=>simp[q] at h
   |some I=>simp[q] at h;subst h;have F:=vH (μ:=μ) q;refine⟨_,l _ B,?_⟩;rw[rep];exact⟨D.toList,by simp,F.1,F.2⟩
  .rename_i v _ B;exact⟨v,l v B,rE h⟩
  .cases h
 .cases h
theorem EH {o:Oper} {t:TypeId} {x k:Operand} {ok:Bool} {sv:SV} (ho:o.op= .lookup t x k ok) (h:c8 P o st=some sv):kD P μ loc o sv a w:=by
 unfold c8 at h;rw[ho] at h;simp only[] at h;split at h
 .rename_i kt et W;split at h
  .rename_i ks key hx hk;cases l:(ok&&gF P kt key&&(lQ P et).isSome) with
   |false=>simp_all
   |true=>
    simp only[l,ai,bg] at h;obtain⟨r,S,rfl⟩:=h;simp only[aF] at l;obtain⟨⟨V,l⟩,hzz⟩:=l;subst V;have q:=dD hR hk;obtain⟨sx,Q,D⟩:=bZ.1 hx;unfold z8 at D;split at D
    .rename_i id;split at D
     .rename_i k' e' sz' ks' vs' qq;injection D with D;subst D;have I:a.eval x=dO (loc id):=aG hR Q;obtain⟨b,j7,O,us,hl,_,U,_,h1,h2,h3,h4,h5,_⟩:=hR.obs id _ qq;have I:a.eval x= .map (some b):=by rw[I,hl];rfl
      have B:=kN q l h1 S w;have fin:∀y,(Instr.lookup t (a.eval x) (a.eval k) true).run P w= .ok (.tuple #[y, .bool r.isSome]) w->kD P μ loc o (.two .any r.isSome) a w:=λy hr=>dc (s:=Instr.lookup t (a.eval x) (a.eval k) true) (by unfold execOp;rw[ho]) hr ⟨y,rfl,trivial⟩
      cases r with
      |none=>simp only[] at B;obtain⟨z,R⟩:=kK.1 hzz;obtain⟨zv,H,_⟩:=vI (μ:=μ) R w;refine fin zv ?_;rw[I];simp[Instr.lookup,aU W,fA U,fT q l,B,H]
      |some j=>obtain⟨e,he,G,_⟩:=B;refine fin e.val ?_;rw[I];simp[Instr.lookup,aU W,fA U,fT q l,G]
     simp_all
    simp_all
  split at h
  .rename_i ks vs key hx hk;cases l:gF P kt key with
   |false=>simp_all
   |true=>
    simp only[l,ai] at h;have q:=dD hR hk;obtain⟨sx,Q,D⟩:=bZ.1 hx;have hm:=BY hR D (aG hR Q);have fin:∀(y:AV) (b:Bool) (K:Value),rep μ y K->rep _ (found ok y b) (if ok=true then .tuple #[K, .bool b] else K):=λy b K hy=>by cases ok with
     |false=>exact hy
     |true=>exact⟨_,rfl,bq hy (bq (by simp[rep]) cF)⟩
    have run:∀(y) (b) (K),rep _ y K->(Instr.lookup t _ _ _).run P w= .ok _ w->kD P _ loc o (.pv _) a w:=λy b K hy hr=>dc (by unfold execOp;rw[ho]) hr (fin y b _ hy)
    unfold Kr at h;rcases hm with⟨I,rfl,rfl⟩|⟨b,j7,O,I,U,h1,h2⟩
    .simp[lR] at h;cases R:lQ P et with
     |none=>simp_all
     |some z=>simp[R] at h;subst h;obtain⟨zv,H,F⟩:=vI R w;refine run z _ _ F ?_;have B:=kN q l (ks:=[]) (j7:=[]) (by rfl) rfl w;rw[I];simp[Instr.lookup,aU W,fT q l,B,H]
    .cases S:lR key ks with
     |none=>simp_all
     |some r=>have B:=kN q l h1 S w;cases r with
      |none=>simp[S] at h;cases R:lQ P et with
       |none=>simp_all
       |some z=>simp[R] at h;subst h;obtain⟨zv,H,F⟩:=vI R w;refine run z _ _ F ?_;rw[I];simp[Instr.lookup,aU W,fA U,fT q l,B,H]
      |some j=>simp[S] at h;cases hg:vs[j]? with
       |none=>simp_all
       |some y=>
        simp[hg] at h;subst h;obtain⟨e,he,G,_⟩:=B;obtain⟨K,Ny,hyr⟩:=ow h2 hg;have :=by
         have he' :=by simpa using he
         simp[he'] at Ny;exact Ny.symm
        subst this;refine run y _ _ hyr ?_;rw[I];simp[Instr.lookup,aU W,fA U,fT q l,G]
  grind
 grind
theorem EI {o:Oper} {t:TypeId} {x H:Operand} {lo D:Option Operand} {I:SV} (W:o.op= .slice t x lo D (some H)) (h:c8 P o st=some I):kD P μ loc o I a w:=by
 unfold c8 at h;rw[W] at h;simp only[Ls] at h;split at h
 rotate_left
 .cases h
 rename_i D;split at h
 .rename_i id hx;split at h
  .rename_i R sz xs e s ka va kb vb q hs S V;split at h
   .injection h with h;subst h;obtain⟨hu,inf,G,hsz⟩:=eH hs;have RL :=(aG hR hx).trans (fS (hR.obs _ _ q));have B:=aG hR S;have F:=aG hR V;simp[eV,rep] at B F;obtain⟨vs,z,hrc,_⟩:=hR.obs _ _ q;obtain⟨A,c,l,U,hA⟩:∃A c,loc id= .slice A xs.length c/\xs.length<=c/\(A.map (·.add (0 *s))=A):=by
     rcases z.2 with⟨Q,R⟩|⟨g,K,O,Q,h2,h3,h4⟩
     .simp_all
     grind[add_zero']
    refine dc (s:=Instr.sliceAt t (a.eval x) (none) (some (a.eval D)) (some (a.eval H))) (by unfold execOp;simp_all) ?_ ⟨A,_,c,l,rfl⟩;simp_all[Instr.sliceAt,Instr.slice,aU,Instr.sliceBounds,Instr.sliceBound,asIntOf,sizeOf,typeInfo]
   grind
  grind
 grind
theorem qN {o:Oper} {B:SV} (h:c8 P o st=some B):kD P μ loc o B a w:=by
 have l:=h;unfold c8 at l;split at l
 .grind[w5]
 .rename_i x q;exact w5 hR (.inr q) l
 .grind[JU]
 .grind[MH]
 .grind[OM]
 .grind[C8]
 .grind[zZ]
 .grind[BN]
 .grind[AG]
 .grind[Hy]
 .grind[AH]
 .grind[Hz]
 .grind[JT]
 .grind[HA]
 .grind[EI]
 .grind[Da]
 .grind[EH]
 .rename_i q;exact wC hR (λz D=>mj D) q af
 simp_all
end
end
