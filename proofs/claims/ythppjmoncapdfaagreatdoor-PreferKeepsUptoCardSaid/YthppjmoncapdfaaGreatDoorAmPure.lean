/- THE ABSTRACT MACHINE. -/
import Derived.Test.YthppjmoncapdfaaGreatDoorAmRel
import Derived.Laws.Strings
import Derived.Laws.StructEq
set_option linter.all false
namespace Go.AM
section
variable {P:Program} {μ:Mu} {loc:Nat->Value} {w:World}
def vQ {t:TypeId} {v:Value} {x:AV} (h:ofConst P t v=some x):rep μ x v:=by
 unfold ofConst at h;split at h
 .grind[rep]
 .grind[rep]
 .grind[rep]
 .cases l:isSlice P t with
  |none=>simp_all
  |some y=>simp[l] at h;subst h;exact⟨_,0,rfl,aU _,cZ _, .inl rfl⟩
 .grind[rep]
 .grind[rep,Value.oneCell',Value.cells]
 .split at h
  .injection h with h;subst h;rw[rep];simp
  grind
 grind
def qK {t:TypeId} {b:Bool} (h:CJ P t=some b) (w:World):(isAgg t).run P w= .ok b w:=by
 unfold CJ at h;unfold isAgg;split at h
 .simp_all[bJ]
 .simp_all[bJ]
 .rename_i d q z l;injection h with h;subst h;simp only[fW,bJ l,gO];rfl
 grind
def kz {t:TypeId} {n:Nat} (h:kN P t=some n) (w:World):(sizeOf t).run P w= .ok n w:=by unfold kN at h;cases l:P.info? t with
 |none=>simp_all
 |some i=>simp_all[sizeOf,typeInfo]
def gw {t:TypeId} {e:TypeId} {s:Nat} (h:isSlice P t=some (e,s)):P.underlying t=some (.slice e)/\∃i,P.info? e=some i/\i.size=s:=by
 unfold isSlice at h;split at h
 .rename_i l z;cases q:P.info? l with
  |none=>simp_all
  |some i=>simp_all
 grind
theorem add_lit (b l j:Nat):(⟨b,l,none⟩:Addr).add j=⟨b,l+j,none⟩:=by simp_all[Addr.add]
theorem add_zero' (p:Addr):p.add 0=p:=by rfl
def rI {t:TypeId} {ad:Addr} {D:List AV} {z:List Value} {x:AV} (q:iG P t D=some x) (B:j8 μ D z)
  (l:∀j v,z[j]? =some v->w.cell? (ad.add j)=some v):∃v,(loadVar t ad).run P w= .ok v w/\rep μ x v:=by
 unfold iG at q;split at q
 .rename_i n I O;split at q
  .injection q with q;subst q;have K:(z.take n).length=n:=by rw[fI,B.length];omega
   have G:=zz (P:=P) w _ (z.take n) (λj v F=>l j v (by grind));refine⟨.agg (z.take n).toArray,?_,?_⟩
   .simp_all[loadVar,qK,kz]
   .exact⟨_,rfl,(B.take n).1,(B.take n).2⟩
  simp_all
 .obtain⟨v,F,G⟩:=sw B.1 q;have H:=l 0 v F;simp_all[Addr.add,loadVar,qK]
 simp_all
def JA {t:TypeId} {D:List AV} {B:List Value} {x:AV} (q:Nat) (l:iG P t (D.drop q)=some x) (z:j8 μ D B):
  ∃v,(part t B.toArray q).run P w= .ok v w/\rep μ x v:=by
 unfold iG at l;split at l
 .rename_i n F G;split at l
  .injection l with l;subst l;refine⟨.agg ((B.drop q).take n).toArray,?_,?_⟩
   .simp[part,qK F,kz G]
   .exact⟨_,rfl,((z.drop _).take n).1,((z.drop _).take n).2⟩
  simp_all
 .obtain⟨v,I,H⟩:=sw (z.drop _).1 l;simp_all[part,qK]
 simp_all
def LQ {xs:List SV} {l:List Value} (h:iF μ loc xs l) {i:Nat} {x:SV} (q:xs[i]? =some x):∃v,l[i]? =some v/\gH μ loc x v:=by induction xs generalizing l i with
 |nil=>simp at q
 |cons y xs D=>obtain⟨u,F,rfl,z,B⟩:=h;grind
theorem pz {xs:List SV} {l:List Value} (h:iF μ loc xs l):l.length=xs.length:=by induction xs generalizing l with
 |nil=>exact aK _ h
 |cons x xs z=>obtain⟨u,B,rfl,_,q⟩:=h;simp_all
theorem Cr {xs:List SV} {l:List Value} (h:iF μ loc xs l) (n:Nat):iF μ loc (xs.drop n) (l.drop n):=by induction n generalizing xs l with
 |zero=>assumption
 |succ n z=>cases xs with
  |nil=>simp_all[iF]
  |cons x xs=>obtain⟨u,B,rfl,_,q⟩:=h;simp_all
theorem Cs {xs:List SV} {l:List Value} (h:iF μ loc xs l) (n:Nat):iF μ loc (xs.take n) (l.take n):=by induction n generalizing xs l with
 |zero=>rfl
 |succ n B=>cases xs with
  |nil=>simp_all[iF]
  |cons x xs=>obtain⟨u,D,rfl,q,z⟩:=h;exact⟨u,_,by simp,q,B z⟩
theorem pq {xs z:List SV} {l q:List Value} (h:iF μ loc xs l) (k:iF μ loc z q):iF μ loc (xs++z) (l++q):=by induction xs generalizing l with
 |nil=>have:l=[]:=h;simp_all
 |cons x xs F=>obtain⟨u,G,rfl,B,D⟩:=h;exact⟨u,_,by simp,B,F D⟩
def rH {l:List AV} {q:List Value} (h:cn μ l q):iF μ loc (l.map .pv) q:=by induction l generalizing q with
 |nil=>assumption
 |cons x xs D=>obtain⟨u,F,rfl,z,B⟩:=h;exact⟨u,F,rfl,z,D B⟩
def PO {xs:List SV} {q:List pY} {B:List Value} (h:vB xs=some q) (k:iF μ loc xs B):j9 μ loc q B:=by induction xs generalizing q B with
 |nil=>simp[vB,aN] at h;subst h;exact k
 |cons x xs G=>obtain⟨u,H,rfl,D,F⟩:=k;cases x with
  |pv v=>simp[vB,bZ] at h;obtain⟨z,l,rfl⟩:=h;exact⟨u,H,rfl,D,G l F⟩
  |row id=>simp[vB,bZ] at h;obtain⟨z,l,rfl⟩:=h;exact⟨u,H,rfl,D,G l F⟩
  |_=>simp[vB] at h
def FE {xs:List SV} {l:List AV} {q:List Value} (h:lW xs=some l) (k:iF μ loc xs q):cn μ l q:=by induction xs generalizing q l with
 |nil=>simp[lW] at h;subst h;assumption
 |cons x xs F=>cases x with
  |pv v=>simp[lW] at h;cases z:lW xs with
   |none=>simp_all
   |some G=>simp[z] at h;subst h;obtain⟨u,H,rfl,B,D⟩:=k;exact bN B (F z D)
  |_=>simp[lW] at h
theorem dm {q:Nat} {xs:List (List AV)} {l:List Value} (h:c4 μ q xs l):l.length=xs.length *q:=by induction xs generalizing l with
 |nil=>have:l=[]:=h;simp_all
 |cons x xs D=>obtain⟨F,ws,rfl,_,z,B⟩:=h;grind
def NV {q:Nat} {xs:List (List AV)} {z:List Value} (h:c4 μ q xs z) {i:Nat} {x:List AV} (B:xs[i]? =some x):
  ∃l:List Value,j8 μ x l/\l.length=q/\∀j u,l[j]? =some u->z[i *q+j]? =some u:=by
 induction xs generalizing z i with
 |nil=>simp at B
 |cons y xs H=>obtain⟨l,ws,rfl,D,F,G⟩:=h;cases i with
  |zero=>grind
  |succ i=>grind
end
section
variable {P:Program} {N:Nat} {w0:World} {μ0:Mu} {L:rV} {μ:Mu} {loc:Nat->Value} {st:St} {a:Act} {w:World}
theorem aY (hR:Rel N w0 μ0 L μ loc st a w) {t:TypeId} {x:Operand} {q:SV} (h:bz P t st x=some q):gH μ loc q (a.eval x):=by cases x with
 |tmp i=>obtain⟨v,B,z⟩:=hR.env i _ h;simp_all[Act.eval]
 |const v=>simp[bz] at h;cases l:ofConst P t v with
  |none=>simp_all
  |some y=>simp[l] at h;subst h;exact vQ l
 |func f=>simp[bz] at h;subst h;exact⟨[],rfl,dg⟩
 |global g=>simp[bz] at h
theorem fu (hR:Rel N w0 μ0 L μ loc st a w) {t:TypeId} {x:Operand} {v:AV} (h:(bz P t st x).bind iJ =some v):rep μ v (a.eval x):=by cases l:bz P t st x with
 |none=>simp_all
 |some q=>have:=aY hR l;cases q<;>simp[l,iJ] at h;subst h;exact this
def Qh (op:BinOp) (t:TypeId) (X Y:Operand) (k k':IntKind) (n m:Int) (w:World):(eqGuard op t X Y (.int k n) (.int k' m)).run P w= .ok () w:=by unfold eqGuard;simp
def Qi (op:BinOp) (t:TypeId) (X Y:Operand) (x y:ByteArray) (w:World):(eqGuard op t X Y (.string x) (.string y)).run P w= .ok () w:=by unfold eqGuard;simp
def Mz (op:BinOp) (t:TypeId) (X Y:Operand) (x y:Bool) (w:World):(eqGuard op t X Y (.bool x) (.bool y)).run P w= .ok () w:=by unfold eqGuard;simp
def run_equalIn_bool (d:Nat) {t:TypeId} (l:P.underlying t=some .bool) (x y:Bool) (w:World):(Op.equalIn (d+1) t (.bool x) (.bool y)).run P w= .ok (x==y) w:=by simp[Op.equalIn,bJ l]
def adi (a b:List UInt8):((⟨a.toArray⟩:ByteArray)==⟨b.toArray⟩)=(a==b):=by
 show(a.toArray==b.toArray)=(a==b)
 simp
def Yi {t:TypeId} {a:AV} (h:jE P t a=true):CJ P t=some false:=by unfold jE at h;grind[CJ]
def Fv {xs Q:List AV} {vs V:List Value} (S:j8 μ xs vs) (U:j8 μ Q V) (d:Nat):∀{F:List Field} {b:Bool},K4 P xs Q F=some b->(Op.eqFields (d+1) vs.toArray V.toArray F).run P w= .ok b w
 |[],b=>λh=>by simp_all[K4,Op.eqFields]
 |f::F,b=>λh=>by
  unfold K4 at h;split at h
  .rename_i R z G H;cases I:(!(f.name== "_")&&jE P f.type R&&jE P f.type z&&(kN P f.type).isSome) with
   |false=>simp_all
   |true=>
    simp[I] at h;simp at I;obtain⟨⟨⟨hn,l⟩,hky⟩,O⟩:=I;obtain⟨n,D⟩:=kn.1 O;have B:=Yi l;have t1:iG P f.type (xs.drop f.offset)=some R:=by unfold iG;rw[B,D];simpa using G
    have t2:iG P f.type (Q.drop f.offset)=some z:=by unfold iG;rw[B,D];simpa using H
    obtain⟨v,hv,rv⟩:=JA (w:=w) _ t1 S;obtain⟨u,hu,ru⟩:=JA (w:=w) _ t2 U;split at h
    .rename_i r q K hq;injection h with h;subst h;have ih:=Fv S U d hq;have he:(Op.equalIn (d+1) f.type v u).run P w= .ok r w:=by
      unfold jE at l;split at l
      .cases z<;>simp[vK] at K;simp_all[rep,run_equalIn_string]
      .cases z<;>simp[vK] at K;simp_all[rep,run_equalIn_int]
      .cases z<;>simp[vK] at K;simp_all[rep,run_equalIn_bool']
      .cases l
     simp[Op.eqFields,az hn,fW,hv,hu,he,gO,Sem.run_ite,ih];cases r<;>simp
    grind
  grind
def Me {op:BinOp} {t:TypeId} {xs F:List AV} {r:AV} {X Y:Operand} {u v:Value} (h:SP P op t xs F=some r) (Q:rep μ (.agg xs) u) (R:rep μ (.agg F) v):
  ∃z,(do eqGuard op t X Y u v;binOp op t u v).run P w= .ok z w/\rep μ r z:=by
 obtain⟨vs,rfl,H,I⟩:=Q;obtain⟨V,rfl,S,U⟩:=R;unfold SP at h;split at h
 .rename_i G D;cases l:(!(P.stoodInHeld t)&& !(P.eqGuardType P.depth t)) with
  |false=>simp_all
  |true=>
   simp[l] at h;simp at l;have B:P.fieldsOf t=G:=by unfold Program.fieldsOf;rw[D]
   have q:P.underlying t=some (.struct (P.fieldsOf t)):=by rw[B];exact D
   have O:∀b,K4 P _ _ _=some b->(Op.equalIn 10000 t _ _).run P w= .ok b w:=λb K=>by rw[run_equalIn_struct w _ t _ _ q l.1,B];exact Fv ⟨H,I⟩ ⟨S,U⟩ _ K
   simp[fW,run_eqGuard_agg w _ t X Y _ _ l.2];split at h
   .injection h with h;subst h;simp_all[binOp,Op.equal,Op.maxDepth,rep]
   .injection h with h;subst h;simp_all[binOp,Op.equal,Op.maxDepth,rep]
   grind
 grind
def Xy {op:BinOp} {t:TypeId} {x y r:AV} {X Y:Operand} {u v:Value} (h:bin P op t x y=some r) (l:rep μ x u) (q:rep μ y v):
  ∃z,(do eqGuard op t X Y u v;binOp op t u v).run P w= .ok z w/\rep μ r z:=by
 cases x with
 |int k n=>cases y with
  |int k' m=>
   rw[rep] at l q;subst l;subst q;simp only[fW,Qh,gO];unfold bin at h;cases op
   case shl=>
    simp only[AD] at h;split at h
    .cases h
    .injection h with h;subst h;rename_i B;exact⟨_,by simp[binOp,Op.shift,B];rfl,by simp[rep]⟩
   case shr=>
    simp only[AD] at h;split at h
    .cases h
    .injection h with h;subst h;rename_i B;exact⟨_,by simp[binOp,Op.shift,B];rfl,by simp[rep]⟩
   case quo=>
    simp only[] at h;split at h
    .rename_i e;subst e;simp only[ET] at h;split at h
     .cases h
     .injection h with h;subst h;simp_all[binOp,Op.intDiv,rep]
    grind
   case rem=>
    simp only[] at h;split at h
    .rename_i e;subst e;simp only[ET] at h;split at h
     .cases h
     .injection h with h;subst h;simp_all[binOp,Op.intDiv,rep]
    grind
   all_goals
    simp only[] at h;split at h
    .rename_i e;subst e;simp only[ET,aN] at h;subst h;simp_all[binOp,Op.intArith,Op.intBits,Op.intCmp,rep]
    grind
  |_=>simp[bin] at h
 |str s=>cases y with
  |str D=>
   rw[rep] at l q;subst l;subst q;simp only[fW,Qi,gO];unfold bin at h;simp only[U3] at h;cases op
   case add=>
    simp only[] at h;split at h
    .injection h with h;subst h;refine⟨.string ⟨(s++D).toArray⟩,?_,by simp[rep]⟩;have B:¬((((⟨s.toArray⟩:ByteArray).size+(⟨D.toArray⟩:ByteArray).size))>IntKind.i64.max):=by
      simp[ByteArray.size];omega
     have e:(⟨s.toArray⟩:ByteArray)++⟨D.toArray⟩=⟨_⟩:=rfl;simp_all[binOp,Op.stringOp]
    grind
   all_goals first
    |grind
    |(simp at h;subst h;simp_all[binOp,Op.stringOp,rep])
  |_=>simp[bin] at h
 |bool b=>cases y with
  |bool c=>
   subst l;subst q;simp[fW,Mz];unfold bin at h;simp at h;split at h
   .injection h with h;subst h;simp_all[binOp,Op.equal,Op.maxDepth,run_equalIn_bool,rep]
   .injection h with h;subst h;simp_all[binOp,Op.equal,Op.maxDepth,run_equalIn_bool,rep]
   grind
  |_=>simp[bin] at h
 |agg xs=>cases y with
  |agg F=>exact Me (by assumption) l q
  |_=>simp[bin] at h
 |_=>simp[bin] at h
def ado {op:UnOp} {x r:AV} {u:Value} (h:un op x=some r) (l:rep μ x u):∃z,(Op.unary op u).run P w= .ok z w/\rep μ r z:=by
 unfold un at h;split at h
 .injection h with h;subst h;simp_all[rep,Op.unary,Op.intArith]
 .injection h with h;subst h;simp_all[rep,Op.unary]
 grind
def iS {B:Nat} {id:Nat} {e:TypeId} {D:Nat} {xs:List (List AV)} (h:lU B L μ loc w id (.row e D xs)):fH (loc id)=loc id:=by obtain⟨F,l,_⟩:=h;rcases l.2 with⟨e1,_⟩|⟨g,q,z,e1,_⟩<;>rw[e1]<;>rfl
def Vw {D:Nat} {id:Nat} {k e:TypeId} {B q:List AV} (h:lU D L μ loc w id (.mp k e B q)):fH (loc id)=loc id:=by obtain⟨b,cN,l,z,_⟩:=h;rw[z];rfl
def tG {q b:Nat} {xs:List (List AV)} {l:Nat} (h:kJ μ q b xs l):∃z,c4 μ q xs z/\∀j u,z[j]? =some u->μ b (l+j)=some u:=by induction xs generalizing l with
 |nil=>exact⟨[],rfl,ah⟩
 |cons x xs H=>obtain⟨⟨K,B,D,F,O⟩,G⟩:=h;obtain⟨ws,I,R⟩:=H G;refine⟨_,⟨K,ws,rfl,⟨B,D⟩,F,I⟩,λj u Q=> ?_⟩;grind
def lI {B:Nat} {xs:List (List AV)} {q:List Value} (h:c4 μ B xs q):∀u∈q,u.oneCell'=true:=by induction xs generalizing q with
 |nil=>have:q=[]:=h;simp_all
 |cons x xs G=>
  obtain⟨a,b,rfl,z,D,F⟩:=h;intro u l;rcases bw.1 l with l|l
  .exact z.2 u l
  grind
def sP {l:Nat} {xs:List (List AV)} {q:List Value} (h:c4 μ l xs q) (n:Nat):c4 μ l (xs.take n) (q.take (n *l)):=by induction n generalizing xs q with
 |zero=>simp[c4]
 |succ n F=>cases xs with
  |nil=>simp_all[c4]
  |cons x xs=>obtain⟨G,ws,rfl,z,B,D⟩:=h;refine⟨G,_,?_,z,B,F D⟩;grind[Nat.add_mul]
def BK {l:Nat} {xs:List (List AV)} {q:List Value} (h:c4 μ l xs q) (n:Nat):c4 μ l (xs.drop n) (q.drop (n *l)):=by induction n generalizing xs q with
 |zero=>simp_all
 |succ n G=>cases xs with
  |nil=>simp_all[c4]
  |cons x xs=>obtain⟨z,ws,rfl,B,D,F⟩:=h;rw[show(n+1) *l=z.length+n *l from by grind,Fw];simp_all
theorem s7 (hR:Rel N w0 μ0 L μ loc st a w) {v:SV} {u:Value} {sz:Nat} {xs:List (List AV)} (q:elems st v=some (sz,xs)) (R:gH μ loc v u):
  ∃A c,u= .slice A xs.length c/\∃D,c4 μ sz xs D/\(xs.length=0\/∃ad:Addr,A=some ad/\∀j x,D[j]? =some x->w.cell? (ad.add j)=some x):=by
 cases v with
 |pv v=>cases v with
  |dK V I=>
   obtain⟨rfl,rfl⟩:=q;obtain⟨A,c,e1,_,_,h3⟩:=R;rcases h3 with h0|⟨b,off,rfl,H⟩
   .have :=kY h0;subst this;exact⟨A,c,e1,[],rfl, .inl rfl⟩
   .obtain⟨D,k1,k2⟩:=tG H;exact⟨_,c,e1,D,k1, .inr ⟨_,rfl,λj u hu=>by rw[add_lit];exact tq (hR.uy _ _ _ (k2 j u hu)) (lI k1 u (aI hu))⟩⟩
  |_=>simp[elems] at q
 |row S=>
  simp[elems] at q;split at q
  .rename_i e' V I z;obtain⟨rfl,rfl⟩:=q;have G:=hR.obs _ _ z;have hb:=iS G;obtain⟨D,l,B,_⟩:=G;have Pu:u=fH _:=R;rcases l.2 with⟨e1,e2⟩|⟨g,F,K,e1,_⟩
   .grind
   .exact⟨_,F,by simp_all,D,B, .inr ⟨_,rfl,l.cells (g:=g) (by rw[e1];rfl)⟩⟩
  simp_all
 |sub S s2 U O=>
  simp[elems] at q;split at q
  .rename_i e' V I z;cases hq:Nat.beq s2 V with
   |false=>simp_all
   |true=>
   rw[hq] at q;obtain⟨rfl,rfl⟩:=q;obtain⟨D,l,B,_⟩:=hR.obs _ _ z;obtain⟨A,n,c,A',c',h1,h2,h3,h4,h5,h6,h7⟩:=R;have hn:n=I.length:=by rcases l.2 with⟨e1,e2⟩|⟨g,F,K,e1,_⟩<;>simp_all
   have hl:((I.take O).drop U).length=O-U:=aF;refine⟨A',c',by simp_all,_,BK (sP B _) _,?_⟩;by_cases Q:U<O
   .obtain⟨g,eA,eA'⟩:=h7 Q;have vp:=l.cells (by rw[h1,eA];rfl);simp_all[qw,add_lit]
   omega
  simp_all
 |_=>simp[elems] at q
def FK (hR:Rel N w0 μ0 L μ loc st a w) {v:SV} {u:Value} {sz:Nat} {xs:List (List AV)} (h:elems st v=some (sz,xs)) (l:gH μ loc v u):
  ∃A c,u= .slice A xs.length c:=by
 grind[s7]
def Rg (hR:Rel N w0 μ0 L μ loc st a w) {v:SV} {u:Value} {n:Nat} (h:lenOf st v=some n) (z:gH μ loc v u):∃A c,u= .slice A n c:=by
 unfold lenOf at h;split at h
 .obtain⟨A,c,e⟩:=FK hR rfl z;simp_all
 .split at h
  .rename_i e s xs l;injection h with h;subst h;exact FK hR (sz:=s) (by simp[elems,l]) z
  .rename_i e s k H K xs R l;obtain⟨m,O,Q,G,_,q,_⟩:=hR.obs _ _ l;have e1:u=m:=(z).trans (by rw[G];rfl);rcases q.2 with⟨F,I⟩|⟨g,B,D,F,_⟩
   .simp_all
   simp_all
  grind
 grind
def ic {r:Nat} {q:Array MapEntry} {l:Nat} (h:w.heap[r]? =some (.map q l)):(getObj r).run P w= .ok (.map q l) w:=by simp[getObj,Sem.run,h]
def IT (hR:Rel N w0 μ0 L μ loc st a w) {v:SV} {u:Value} {q B:List AV} (h:maps st v=some (q,B)) (G:gH μ loc v u):
  (u= .map none/\q=[]/\B=[])\/∃b cN l,u= .map (some b)/\w.heap[b]? =some (.map cN l)/\cn μ q (cN.toList.map (·.key))/\cn μ B (cN.toList.map (·.val)):=by
 unfold maps at h;split at h
 .rcases G with G|⟨b,kv,U,rfl,H,I,K⟩
  .simp_all
  .obtain⟨cN,l,O,rfl,rfl⟩:=see_map (hR.uy _ _ _ K);simp_all
 .rename_i id;cases F:st.ob id with
  |none=>simp_all
  |some o=>cases o with
   |box t R=>simp_all
   |row e s Q=>simp_all
   |mr k e s z D=>simp_all
   |rn e s k S s' xs Q=>simp_all
   |it s n=>simp_all
   |lp s=>simp_all
   |mp k e z D=>have V:=Vw (hR.obs _ _ F);obtain⟨b,cN,l,hl,_,O,_,H,I,_⟩:=hR.obs _ _ F;simp_all[gH]
 grind
def nQ (P:Program) (μ:Mu) (loc:Nat->Value) (o:Oper) (l:SV) (a:Act) (w:World):Prop:=
 ∃v,(execOp a.eval o).run P w= .ok (.value v) w/\gH μ loc l v
def fc {o:Oper} {s:Sem Value} {l:SV} (z:execOp a.eval o=(do pure (.value (<-s)))) {v:Value} (B:s.run P w= .ok v w) (q:gH μ loc l v):nQ P μ loc o l a w:=
 ⟨v,by simp_all,q⟩
section
variable (hR:Rel N w0 μ0 L μ loc st a w)
include hR
theorem B7 {o:Oper} {x:Operand} {q:SV} (l:o.op= .move x\/o.op= .assign x) (h:bz P o.type st x=some q):nQ P μ loc o q a w:=by refine⟨_,?_,aY hR h⟩;rcases l with l|l<;> · unfold execOp;simp_all
theorem TM {o:Oper} {c x y:Operand} {q:SV} (B:o.op= .pick c x y) (h:eY P o st=some q):nQ P μ loc o q a w:=by
 unfold eY at h;rw[B] at h;simp at h;split at h
 .rename_i t z;have l:=aY hR z;simp[gH,rep] at l;cases t with
  |true=>refine⟨_,?_,aY hR h⟩;simp_all[execOp,asBool]
  |false=>refine⟨_,?_,aY hR h⟩;simp_all[execOp,asBool]
 grind
theorem X0 {o:Oper} {op:BinOp} {t I:TypeId} {x y:Operand} {B:SV} (q:o.op= .binOp op t x y I) (h:eY P o st=some B):nQ P μ loc o B a w:=by
 unfold eY at h;rw[q] at h;simp at h;split at h
 .rename_i u v F G;cases l:bin P op t u v with
  |none=>simp_all
  |some r=>simp[l] at h;subst h;obtain⟨z,H,D⟩:=Xy l (fu hR F) (fu hR G);exact fc (by unfold execOp;rw[q]) H D
 grind
theorem aav {o:Oper} {op:UnOp} {t:TypeId} {x:Operand} {B:SV} (q:o.op= .unOp op t x) (h:eY P o st=some B):nQ P μ loc o B a w:=by
 unfold eY at h;rw[q] at h;simp at h;split at h
 .rename_i u F;cases l:un op u with
  |none=>simp_all
  |some r=>simp[l] at h;subst h;obtain⟨z,G,D⟩:=ado l (fu hR F);exact fc (by unfold execOp;rw[q]) G D
 grind
omit hR in
theorem PU {xs:List (List AV)} {G:List UInt8} {F:List Value} (h:bytesOf xs=some G) (z:c4 μ 1 xs F):∃D:List Int,F=D.map (Value.int .u8)/\G=D.map λn=>UInt8.ofNat n.toNat:=by induction xs generalizing G F with
 |nil=>simp only[bytesOf,aN] at h;subst h;have:F=[]:=z;subst this;exact⟨[],rfl,rfl⟩
 |cons x xs U=>
  obtain⟨u1,ws,rfl,R,V,S⟩:=z;unfold bytesOf at h;split at h
  .rename_i H;cases H
  .rename_i n l H;injection H with e1 Q;subst e1;subst Q;cases I:bytesOf xs with
   |none=>simp[I] at h
   |some O=>simp[I] at h;subst h;obtain⟨D,rfl,rfl⟩:=U I S;have q:=R.1;rw[cn] at q;obtain⟨y,ys,rfl,K,B⟩:=q;rw[cn] at B;subst B;rw[rep] at K;subst K;exact⟨n::D,by simp,ah⟩
  .cases h
omit hR in
theorem foldl_push (l:List Int):l.foldl (λ(r:ByteArray) n=>r.push (UInt8.ofNat n.toNat)) ByteArray.empty=⟨(l.map λn=>UInt8.ofNat n.toNat).toArray⟩:=by
 have key:∀(l:List Int) (s:ByteArray),l.foldl (λ(r:ByteArray) n=>r.push (UInt8.ofNat n.toNat)) s=⟨s.data++(l.map λn=>UInt8.ofNat n.toNat).toArray⟩:=by intro l;induction l with
  |nil=>intro s;simp
  |cons n l q=>intro s;simp only[fD,q];simp[ByteArray.push]
 rw[key];simp
theorem KK {o:Oper} {t S:TypeId} {x:Operand} {sv:SV} (G:o.op= .convert t S x) (h:eY P o st=some sv):nQ P μ loc o sv a w:=by
 unfold eY at h;rw[G] at h;simp only[] at h;split at h
 .rename_i e hu hd;split at h
  .rename_i xs he hsz F;cases hb:bytesOf xs with
   |none=>simp_all
   |some V=>
    simp[hb] at h;subst h;obtain⟨sx,K,H⟩:=dM.1 F;obtain⟨A,c,R,U,B,D⟩:=s7 hR H (aY hR K);obtain⟨ns,z,l⟩:=PU hb B;have O:=dm B;refine fc (s:=convert t S (a.eval x)) (by unfold execOp;rw[G]) (v:= .string ⟨V.toArray⟩) ?_ (by rfl);have e1:∀v:Value,(∃A n c,v= .slice A n c)->(convert t S v).run P w=(Conv.bytesToString v).run P w:=by rintro v ⟨A,n,c,rfl⟩;simp_all[convert,bJ]
    rw[R,e1 _ ⟨_,_,_,rfl⟩];rcases D with h0|⟨ad,rfl,hc⟩
    .have:U=[]:=kY af
     subst this;have I:ns=[]:=by cases ns with
      |nil=>rfl
      |cons=>simp at z
     subst I;have l:V=[]:=l;subst l;rw[h0];cases A with
     |none=>rfl
     |some ad=>rfl
    .have hl:=zz (P:=P) w ad U hc;have q:U.length=xs.length:=by rw[O];simp
     rw[q,z] at hl;rw[run_bytesToString w _ _ c _ hl,l,foldl_push]
  grind
 .split at h
  .rename_i k' n F;injection h with h;subst h;have Q:=fu hR F;rw[rep] at Q;refine fc (by unfold execOp;rw[G]) ?_ (by rfl);simp_all[convert,bJ,Conv.intToInt]
  grind
 .split at h
  .rename_i s F;injection h with h;subst h;have Q:=fu hR F;rw[rep] at Q;refine fc (by unfold execOp;rw[G]) ?_ (by rfl);simp_all[convert,bJ]
  grind
 grind
theorem y9 {b:Bool} {B r:AV} {l:List Operand} {u:Value} (h:mj P st b B l=some r) (G:rep μ B u):
  ∃v,((l.map a.eval).foldlM (if b then Builtin.max2 else Builtin.min2) u).run P w= .ok v w/\rep μ r v:=by
 induction l generalizing B u with
 |nil=>simp[mj] at h;simp_all
 |cons x l O=>
  simp[mj] at h;split at h
  .rename_i v I;split at h
   .rename_i R q;have H:=fu hR I;unfold acG at q;split at q
    .grind[rep,Builtin.max2,Builtin.min2]
    .rename_i s1 s2;injection q with q;subst q;rw[rep] at G H;subst G;obtain⟨z,K,D⟩:=O h (u:= .string ⟨(bif b then(bif !(Op.bytesLess s1 s2) then s1 else s2) else(bif Op.bytesLess s1 s2||s1==s2 then s1 else s2)).toArray⟩) (by simp[rep]);refine⟨z,?_,D⟩;rw[<-K];simp[aS,H];cases b with
     |true=>cases F:Op.bytesLess _ _<;>simp[Builtin.max2,Op.stringOp,asBool,F]
     |false=>cases F:Op.bytesLess _ _<;>cases Q:s1==s2<;>simp_all[Builtin.min2,Op.stringOp,asBool]
    simp_all
   grind
  grind
theorem FQ {o:Oper} {c:Call} {V:SV} (S:o.op= .call c) (h:xb P c st=some V):nQ P μ loc o V a w:=by
 obtain⟨O,⟨args⟩,⟨F⟩⟩:=c;unfold xb at h;simp only[] at h;split at h
 .rename_i x;split at h
  .rename_i t;split at h
   .rename_i s G B;injection h with h;subst h;have q:=aY hR B;simp only[gH,rep] at q;refine⟨.int .i64 s.length,?_,by rfl⟩;have R:(⟨s.toArray⟩:ByteArray).size=s.length:=rfl;unfold execOp;rw[S];simp[resolve,invoke,builtin,Builtin.len_,bJ G,q,goInt,R]
   .rename_i e G B;injection h with h;subst h;have q:=aY hR B;simp only[gH,rep] at q;refine⟨.int .i64 0,?_,by rfl⟩;simp_all[execOp,resolve,invoke,builtin,Builtin.len_,bJ,goInt]
   .rename_i e id sz lo hi G B;injection h with h;subst h;obtain⟨A,n,c,A',c',_,hlo,hhi,_,q,_⟩:=aY hR B;refine⟨.int .i64 ((hi-lo:Nat):Int),?_,by rfl⟩;simp_all[execOp,resolve,invoke,builtin,Builtin.len_,bJ,goInt]
   .rename_i e v _ _ G B;cases H:lenOf st v with
    |none=>simp_all
    |some y=>simp[H] at h;subst h;obtain⟨A,c,q⟩:=Rg hR H (aY hR B);refine⟨.int .i64 y,?_,by rfl⟩;simp_all[execOp,resolve,invoke,builtin,Builtin.len_,bJ,goInt]
   .rename_i kt et v G B;cases H:maps st v with
    |none=>simp_all
    |some y=>
     obtain⟨U,vs⟩:=y;simp[H] at h;subst h;refine⟨.int .i64 U.length,?_,by rfl⟩;unfold execOp;rw[S];rcases IT hR H (aY hR B) with⟨q,rfl,rfl⟩|⟨b,cN,Q,q,hh,h1,h2⟩
     .simp_all[resolve,invoke,builtin,Builtin.len_,bJ,goInt]
     .have I:cN.size=U.length:=by simpa using nK h1
      simp[resolve,invoke,builtin,Builtin.len_,bJ G,q,goInt,ic hh,I]
   grind
  grind
 .rename_i x l;split at h
  .rename_i v q;cases K:mj P st true v l with
   |none=>simp_all
   |some r=>simp[K] at h;subst h;obtain⟨z,hz,D⟩:=y9 hR K (fu hR q);refine⟨z,?_,D⟩;simp_all[execOp,fS,resolve,invoke,builtin,Builtin.max_]
  grind
 .rename_i x l;split at h
  .rename_i v q;cases K:mj P st false v l with
   |none=>simp_all
   |some r=>simp[K] at h;subst h;obtain⟨z,hz,D⟩:=y9 hR K (fu hR q);refine⟨z,?_,D⟩;simp_all[execOp,resolve,invoke,builtin,Builtin.min_]
  grind
 grind
omit hR in
theorem FM {t:TypeId} {f:Nat} {fd:Field} (h:vH P t f=some fd):∃l,P.underlying t=some (.struct l)/\l[f]? =some fd:=by
 unfold vH at h;split at h
 .rename_i l q;exact⟨l,q,h⟩
 .cases h
theorem GC {o:Oper} {t:TypeId} {x:Operand} {f:Nat} {K:SV} (B:o.op= .fieldAddr t x f) (h:eY P o st=some K):nQ P μ loc o K a w:=by
 unfold eY at h;rw[B] at h;simp at h;split at h
 .rename_i fd Q;obtain⟨fs,hu,R⟩:=FM Q;split at h
  .cases h
  .have run:∀ad:Addr,(Instr.fieldAt t (.pointer (some ad)) f).run P w= .ok (.pointer (some (ad.add fd.offset))) w:=λad=>by
    simp_all[Instr.fieldAt,bJ,Instr.sureAddr,fieldPlace,kz]
   split at h
   .rename_i id z q;injection h with h;subst h;obtain⟨b,H,l⟩:=aY hR q;refine fc (by unfold execOp;rw[B]) (by rw[l];exact run _) ?_;exact⟨b,H,by rw[add_lit]⟩
   .rename_i O q;injection h with h;subst h;obtain⟨b,z,vs,l,D,U⟩:=aY hR q;refine fc (by unfold execOp;rw[B]) (by rw[l];exact run _) ?_;refine⟨b,_,_,by rw[add_lit],D.drop _,λj v S=> ?_⟩;grind
   .rename_i O q;injection h with h;subst h;have I:=aY hR q;obtain⟨b,z,vs,l,F,G,U⟩:=I;have D:j8 _ _ _:=⟨F,G⟩
    refine fc (by unfold execOp;rw[B]) (by rw[l];exact run _) ?_;refine⟨b,_,_,by rw[add_lit],D.drop _,λj v S=> ?_⟩;grind
   .rename_i id sz i z q;injection h with h;subst h;obtain⟨g,V,c,H,l⟩:=aY hR q;refine fc (by unfold execOp;rw[B]) (by rw[l];exact run _) ?_;exact⟨g,V,c,H,by rw[add_lit,kZ]⟩
   grind
  grind
 grind
theorem IA {o:Oper} {x:Operand} {z:SV} (B:o.op= .nilCheck x) (h:eY P o st=some z):nQ P μ loc o z a w:=by
 unfold eY at h;simp[B] at h;have G:bz P 0 st x=some z/\∃p,a.eval x= .pointer (some p):=by
  split at h
  .rename_i id q l;have:=aY hR l;grind[gH]
  .rename_i D l;have:=aY hR l;grind[gH]
  .rename_i D l;have:=aY hR l;grind[gH,rep]
  .rename_i id H i q l;have:=aY hR l;grind[gH]
  .cases h
 obtain⟨l,p,F⟩:=G;refine fc (s:=pure _) ?_ rfl (aY hR l);simp[execOp,B,F]
theorem QB {o:Oper} {t:TypeId} {x:Operand} {f:Nat} {D:SV} (z:o.op= .field t x f) (h:eY P o st=some D):nQ P μ loc o D a w:=by
 unfold eY at h;rw[z] at h;simp at h;split at h
 .rename_i fd F I O;obtain⟨Q,S,K⟩:=FM I;cases q:iG P fd.type (F.drop fd.offset) with
  |none=>simp_all
  |some y=>simp[q] at h;subst h;have B:=fu hR O;obtain⟨U,B,G,H⟩:=B;obtain⟨v,R,l⟩:=JA (w:=w) _ q ⟨G,H⟩;refine fc (by unfold execOp;rw[z]) ?_ l;simp_all[Instr.field,bJ,asAgg]
 grind
theorem GD {o:Oper} {t:TypeId} {x ix:Operand} {sv:SV} (ho:o.op= .indexAddr t x ix) (h:eY P o st=some sv):nQ P μ loc o sv a w:=by
 unfold eY at h;rw[ho] at h;simp only[] at h;split at h
 .rename_i n e hu;unfold B8 at h;split at h
  .rename_i s id K k i B S R;split at h
   .rename_i O;obtain⟨Q,G,hpos⟩:=O;injection h with h;subst h;have l:=aY hR R;simp only[gH,rep] at l;obtain⟨b,hl,D⟩:=aY hR S;refine fc (s:=Instr.indexAt t (a.eval x) (a.eval ix)) (by unfold execOp;rw[ho]) (v:= .pointer (some ((⟨b,K,none⟩:Addr).add (i.toNat *s)))) ?_ ?_
    .rw[D,l];have:=kz B w;simp[Instr.indexAt,asIntOf,bJ hu,Instr.sureAddr,Q,G,this]
    .exact⟨b,hl,by rw[add_lit]⟩
   grind
  .rename_i s id sz j K k i B S R;split at h
   .rename_i O;obtain⟨Q,G,hpos⟩:=O;injection h with h;subst h;have l:=aY hR R;simp only[gH,rep] at l;obtain⟨g,m,c,hl,D⟩:=aY hR S;refine fc (s:=Instr.indexAt t (a.eval x) (a.eval ix)) (by unfold execOp;rw[ho]) (v:= .pointer (some ((⟨g,j *sz+K,none⟩:Addr).add (i.toNat *s)))) ?_ ?_
    .rw[D,l];have:=kz B w;simp[Instr.indexAt,asIntOf,bJ hu,Instr.sureAddr,Q,G,this]
    .exact⟨g,m,c,hl,by rw[add_lit,kZ]⟩
   grind
  .rename_i s cs k i B S R;split at h
   .rename_i O;obtain⟨Q,G,hpos⟩:=O;injection h with h;subst h;have l:=aY hR R;simp only[gH,rep] at l;obtain⟨b,K,vs,D,hcs,hm⟩:=aY hR S;refine fc (s:=Instr.indexAt t (a.eval x) (a.eval ix)) (by unfold execOp;rw[ho]) (v:= .pointer (some ((⟨b,K,none⟩:Addr).add (i.toNat *s)))) ?_ ?_
    .rw[D,l];have:=kz B w;simp[Instr.indexAt,asIntOf,bJ hu,Instr.sureAddr,Q,G,this]
    .exact⟨b,_,_,by rw[add_lit],hcs.drop _,λq u hq=>by grind⟩
   grind
  grind
 unfold wS at h;split at h
 .rename_i e s sz xs k i hs S R;obtain⟨hu,inf,H,B⟩:=gw hs;split at h
  .rename_i O;obtain⟨rfl,Q⟩:=O;cases hg:xs[i.toNat]? with
   |none=>simp_all
   |some y=>
    simp[hg] at h;subst h;have G:i.toNat<xs.length:=(bF.1 hg).1;have D:=aY hR S;have l:=aY hR R;simp only[gH,rep] at D l;obtain⟨A,c,D,hlc,hcm,V⟩:=D;rcases V with hz|⟨b,K,rfl,V⟩
    .omega
    .obtain⟨vs,hc1,hc2,hc3⟩:=Cq V hg;refine fc (s:=Instr.indexAt t (a.eval x) (a.eval ix)) (by unfold execOp;rw[ho]) (v:= .pointer (some ((⟨b,K,none⟩:Addr).add (i.toNat *s)))) ?_ ?_
     .rw[D,l];have I:i<(xs.length:Int):=by omega
      simp[Instr.indexAt,asIntOf,bJ hu,Q,I,sizeOf,typeInfo,H,B]
     .refine⟨b,K+i.toNat *s,vs,by rw[add_lit],hc1,hc3⟩
  grind
 .rename_i e s id k i hs S R;obtain⟨hu,inf,H,B⟩:=gw hs;split at h
  .rename_i e' sz xs sg;split at h
   .rename_i O;obtain⟨rfl,Q,G⟩:=O;injection h with h;subst h;have D:=aY hR S;have l:=aY hR R;simp only[gH,rep] at D l;rw[iS (hR.obs id _ sg)] at D;obtain⟨vs,U,hrc,_⟩:=hR.obs id _ sg;obtain⟨g,F,z,_⟩:∃g F,loc id= .slice (some ⟨g,0,none⟩) xs.length F/\True:=by
     rcases U.2 with⟨_,e2⟩|⟨g,F,cur,e1,_⟩
     .omega
     simp_all
    refine fc (s:=Instr.indexAt t (a.eval x) (a.eval ix)) (by unfold execOp;rw[ho]) (v:= .pointer (some ((⟨g,0,none⟩:Addr).add (i.toNat *s)))) ?_ ?_
    .rw[D,l,z];have I:i<(xs.length:Int):=by omega
     simp[Instr.indexAt,asIntOf,bJ hu,Q,I,sizeOf,typeInfo,H,B]
    .exact⟨g,_,F,by rw[z];rfl,by rw[add_lit];simp⟩
   grind
  .rename_i e' sz k e2 s2 xs ys sg;split at h
   .rename_i O;obtain⟨rfl,Q,G⟩:=O;injection h with h;subst h;have D:=aY hR S;have l:=aY hR R;simp only[gH,rep] at D l;obtain⟨m,us,vs,hl,_,U,_⟩:=hR.obs id _ sg;rw[hl] at D;replace D:a.eval x=m:=D;obtain⟨g,F,z,_⟩:∃g F,m= .slice (some ⟨g,0,none⟩) xs.length F/\True:=by
     rcases U.2 with⟨_,e2⟩|⟨g,F,cur,e1,_⟩
     .omega
     simp_all
    refine fc (s:=Instr.indexAt t (a.eval x) (a.eval ix)) (by unfold execOp;rw[ho]) (v:= .pointer (some ((⟨g,0,none⟩:Addr).add (i.toNat *s)))) ?_ ?_
    .rw[D,l,z];have I:i<(xs.length:Int):=by omega
     simp[Instr.indexAt,asIntOf,bJ hu,Q,I,sizeOf,typeInfo,H,B]
    .exact⟨g,_,F,by rw[hl];exact z,by rw[add_lit];simp⟩
   grind
  grind
 .rename_i e s id sz lo hi' k i hs S R;obtain⟨hu,inf,H,B⟩:=gw hs;split at h
  .rename_i O;obtain⟨rfl,Q,G⟩:=O;injection h with h;subst h;have l:=aY hR R;simp[gH,rep] at l;obtain⟨A,n,c,A',c',z,hlo,hhi,hc',D,_,hg⟩:=aY hR S;obtain⟨g,rfl,rfl⟩:=hg af;refine fc (by unfold execOp;rw[ho]) (v:= .pointer (some ((⟨g,lo *s,none⟩:Addr).add (i.toNat *s)))) ?_ ?_
   .simp_all[Instr.indexAt,asIntOf,bJ,sizeOf,typeInfo]
   .exact⟨g,_,c,by rw[z];rfl,by grind[add_lit]⟩
  grind
 grind
theorem QC {o:Oper} {t:TypeId} {x K:Operand} {D:SV} (B:o.op= .index t x K) (h:eY P o st=some D):nQ P μ loc o D a w:=by
 unfold eY at h;rw[B] at h;simp at h;split at h
 .rename_i s k i Q I G;split at h
  .cases z:s[i.toNat]? with
   |none=>simp_all
   |some b=>
    simp[z] at h;subst h;have H:=aY hR I;have l:=aY hR G;simp[gH,rep] at H l;refine fc (by unfold execOp;rw[B]) ?_ (by rfl);have q:=(bF.1 z)
    obtain⟨O,F⟩:=q
    have:(⟨s.toArray⟩:ByteArray)[i.toNat]? =some b:=by rw[getElem?_pos _ _ _];show some s.toArray[i.toNat]=some b;simp[F]
    simp_all[Instr.index,asIntOf,bJ]
  grind
 grind
theorem TK {o:Oper} {t:TypeId} {x:Operand} {sv:SV} (ho:o.op= .load t x) (h:eY P o st=some sv):nQ P μ loc o sv a w:=by
 have start:∀(ad:Addr),a.eval x= .pointer (some ad)->∀v,(loadVar t ad).run P w= .ok v w->∀sv,gH μ loc sv v->nQ P μ loc o sv a w:=λad H v O sv hs=>fc (s:=Instr.loadAt t (a.eval x)) (by unfold execOp;rw[ho]) (v:=v) (by simp_all[Instr.loadAt,Instr.sureAddr]) hs
 unfold eY at h;rw[ho] at h;simp only[] at h;split at h
 .rename_i cs I;cases K:iG P t cs with
  |none=>simp_all
  |some y=>simp[K] at h;subst h;obtain⟨b,l,D,H,R,hm⟩:=aY hR I;obtain⟨v,O,z⟩:=rI (w:=w) (ad:=⟨b,l,none⟩) K R (λj u B=>by rw[add_lit];exact tq (hR.uy _ _ _ (hm j u B)) (R.2 u (aI B)));exact start _ H v O _ z
 .rename_i cs I;cases K:iG P t cs with
  |none=>simp_all
  |some y=>
   simp[K] at h;subst h;have hx':=aY hR I;simp only[gH,rep] at hx';obtain⟨b,l,D,H,S,hc2,hm⟩:=hx';have R:j8 μ cs D:=⟨S,hc2⟩
   obtain⟨v,O,z⟩:=rI (w:=w) (ad:=⟨b,l,none⟩) K R (λj u B=>by rw[add_lit];exact tq (hR.uy _ _ _ (hm j u B)) (R.2 u (aI B)));exact start _ H v O _ z
 .rename_i id sz i l I;split at h
  .rename_i e sz' xs F;split at h
   .rename_i hsz;subst hsz;cases hg:xs[i]? with
    |none=>simp_all
    |some c=>cases K:iG P t (c.drop l) with
     |none=>simp_all
     |some y=>
      simp[hg,K] at h;subst h;obtain⟨g,n,cp,V,H⟩:=aY hR I;rw[iS (hR.obs id _ F)] at V;obtain⟨D,G,hrc,_⟩:=hR.obs id _ F;obtain⟨us,S,hc2,hc3⟩:=NV hrc hg;have q:=G.cells (g:=g) (by rw[V];rfl)
      obtain⟨v,O,z⟩:=rI (w:=w) (ad:=⟨g,i *sz+l,none⟩) K (S.drop l) (λj u B=>by
       rw[vr] at B;have:=q _ _ (hc3 _ _ B);rw[add_lit] at this⊢
       rwa[show 0+(i *sz+(l+j))=i *sz+l+j from by omega] at this)
      exact start _ H v O _ z
   grind
  .rename_i e sz' k e' s' xs ys F;split at h
   .rename_i R;obtain⟨rfl,rfl,hi,hagg⟩:=R;injection h with h;subst h;obtain⟨g,n,cp,V,H⟩:=aY hR I;obtain⟨m,us,D,hl2,hm,G,hrc,hk,h2,h3,h4,h5,h6,h7⟩:=hR.obs id _ F;have IC:m= .slice (some ⟨g,0,none⟩) n cp:=by rw[hl2] at V;exact V
    have q:=G.cells (g:=g) (by rw[IC];rfl);have hlt:i *sz+l<D.length:=by rw[dm hrc];have:=jB sz (show i+1<=xs.length from hi);rw[kj,Nat.one_mul] at this;have:=hk.1;omega
    obtain⟨u,B⟩:∃u,D[i *sz+l]? =some u:=⟨D[i *sz+l],aM hlt⟩
    have hcu:=q _ _ B;rw[add_lit,gy] at hcu;refine start _ H u (by simp_all[loadVar,qK]) _ ?_;refine⟨m,us,hl2,⟨_,_,_,IC⟩,λx I=> ?_⟩;cases hy:ys[i]? with
    |none=>simp_all
    |some y=>cases y with
     |none=>grind
     |some zs=>grind
   grind
  grind
 .rename_i id l I;obtain⟨b,V,H⟩:=aY hR I;split at h
  .rename_i bt cells F;obtain⟨b',D,hl',hnF,U,xD,hss,h1⟩:=hR.obs id _ F;rw[V] at hl';simp only[zA,aN,zB,fG] at hl';subst hl';have hcell:∀j,w.cell? ⟨b,j,none⟩=D[j]? :=λj=>by rw[cell_of_row w b j D.toArray bt _ U];simp
   split at h
   .split at h
    .obtain⟨v,hv',O⟩:=LQ hss h;simp_all[loadVar,qK]
    grind
   .split at h
    .rename_i n hsz;split at h
     .have Q:=Cs (Cr hss l) n;have hlen:=pz hss;have hl2:((D.drop l).take n).length=n:=aF;have O:=zz (P:=P) w ⟨b,l,none⟩ ((D.drop l).take n) (λj v hj=>by simp_all[add_lit,qw]);cases hp:lW ((cells.drop l).take n) with
      |none=>
       simp[hp,bZ] at h;obtain⟨ks,hk,rfl⟩:=h;refine start _ H (.agg ((D.drop l).take n).toArray) ?_ _ ?_
       .simp_all[loadVar,qK,kz]
       .exact⟨_,rfl,PO hk Q,λu B=>h1 u (uJ (uK B))⟩
      |some cs=>
       simp[hp] at h;subst h;refine start _ H (.agg ((D.drop l).take n).toArray) ?_ _ ?_
       .simp_all[loadVar,qK,kz]
       .exact⟨_,rfl,FE hp Q,λu B=>h1 u (uJ (uK B))⟩
     grind
    grind
   grind
  grind
 grind
theorem ja {q:Option Operand} {B:Option SV} {d y r:Nat} (l:nh P st q=some B) (h:gX B d y=some r) (code:BoundsCode):
  (q=none/\r=d)\/∃x,q=some x/\(Instr.sliceBound (a.eval x) y code).run P w= .ok r w/\r<=y:=by
 cases q with
 |none=>simp[nh,aN] at l;subst l;simp[gX] at h;simp_all
 |some x=>simp[nh] at l;cases z:bz P 0 st x with
  |none=>simp_all
  |some F=>simp[z] at l;subst l;have D:=aY hR z;cases F with
   |pv v=>cases v with
    |int k i=>
     simp only[gX] at h;split at h
     .injection h with h;subst h;simp[gH,rep] at D;simp_all[Instr.sliceBound,asIntOf]
     grind
    |_=>simp[gX] at h
   |_=>simp[gX] at h
omit hR in
theorem Dx (s:List UInt8) (l h:Nat) (z:l<=h) (q:h<=s.length):(⟨s.toArray⟩:ByteArray).extract l h=⟨((s.take h).drop l).toArray⟩:=by apply ByteArray.ext;simp[ByteArray.data_extract,List.extract_eq_take_drop,Fx]
theorem NZ {t e:TypeId} {s:Nat} {x:Operand} {V G:Option Operand} {lv S:Option SV} {A:Option Addr} {m c B l:Nat} (hu:P.underlying t=some (.slice e)) (I:kN P e=some s) (hxv:a.eval x= .slice A m c) (hlc:m<=c)
  (H:nh P st V=some lv) (z:nh P st G=some S) (q:gX S m m=some B) (D:gX lv 0 B=some l):
  (Instr.sliceAt t (a.eval x) (V.map a.eval) (G.map a.eval) none).run P w= .ok (.slice (if c=l then A else A.map (·.add (l *s))) (B-l) (c-l)) w:=by
 obtain⟨inf,R,hs⟩:∃i,P.info? e=some i/\i.size=s:=by unfold kN at I;simp_all
 have Q:B<=m:=by rcases ja hR z q .sliceAcap with⟨_,e⟩|⟨_,_,_,e⟩<;>omega
 have hlh:l<=B:=by rcases ja hR H D .sliceB with⟨_,e⟩|⟨_,_,_,e⟩<;>omega
 have F:G=none/\B=m\/∃y,G=some y/\(Instr.sliceBound (a.eval y) c .sliceAcap).run P w= .ok B w:=by cases G with
  |none=>
   rcases ja hR z q .sliceAcap with⟨_,e⟩|⟨_,e,_⟩
   .simp_all
   grind
  |some y=>refine .inr ⟨y,rfl,?_⟩;simp[nh] at z;cases U:bz P 0 st y with
   |none=>simp_all
   |some O=>simp[U] at z;subst z;have K:=aY hR U;cases O with
    |pv v=>cases v with
     |int k i=>
      simp only[gX] at q;split at q
      .simp[gH,rep] at K
       have:i<=(c):=af
       simp_all[Instr.sliceBound,asIntOf]
      simp_all
     |_=>simp[gX] at q
    |_=>simp[gX] at q
 rcases F with⟨rfl,rfl⟩|⟨xh,rfl,rh⟩<;>
 rcases ja hR H D .sliceB with⟨rfl,rfl⟩|⟨xl,rfl,rl,_⟩<;>
 simp[Instr.sliceAt,Instr.slice,bJ _,Instr.sliceBounds,sizeOf,typeInfo, *]
theorem K9 {K I:Option Operand} {H G:Option SV} {m q l:Nat} (F:nh P st K=some H) (D:nh P st I=some G) (z:gX G m m=some q) (B:gX H 0 q=some l):q<=m/\l<=q:=by
 constructor
 .rcases ja hR D z .sliceAcap with⟨_,e⟩|⟨_,_,_,e⟩<;>omega
 .rcases ja hR F B .sliceB with⟨_,e⟩|⟨_,_,_,e⟩<;>omega
theorem QD {o:Oper} {t:TypeId} {x:Operand} {lo hi:Option Operand} {sv:SV} (ho:o.op= .slice t x lo hi none) (h:eY P o st=some sv):nQ P μ loc o sv a w:=by
 unfold eY at h;rw[ho] at h;simp only[] at h;split at h
 .rename_i s lv hv R V F D;split at h
  .rename_i H B;cases z:gX lv 0 H with
   |none=>simp_all
   |some l=>
    simp[z] at h;subst h;have G:=aY hR V;simp only[gH,rep] at G;have I:H<=s.length:=by rcases ja hR D B .sliceAlen with⟨_,e⟩|⟨_,_,_,e⟩<;>omega
    have Q:l<=H:=by rcases ja hR F z .sliceB with⟨_,e⟩|⟨_,_,_,e⟩<;>omega
    refine fc (s:=Instr.sliceAt t (a.eval x) (lo.map a.eval) (hi.map a.eval) none) (by unfold execOp;simp_all) (v:= .string ⟨((s.take H).drop l).toArray⟩) ?_ (by rfl);rw[G];have U:(⟨s.toArray⟩:ByteArray).size=s.length:=rfl;have hex:=Dx s l H Q I;rcases ja hR D B .sliceAlen with⟨rfl,rfl⟩|⟨xh,rfl,rh,_⟩<;>
    rcases ja hR F z .sliceB with⟨rfl,rfl⟩|⟨xl,rfl,rl,_⟩<;>
    simp_all[Instr.sliceAt,Instr.slice,bJ R,Instr.sliceBounds]
  grind
 .rename_i e sz xs lv hv R V F D;split at h
  .rename_i e' s H hs B;obtain⟨q,inf,O,U⟩:=gw hs;rw[R] at q;injection q with q;injection q with q;subst q;split at h
   .rename_i e;subst e;cases z:gX lv 0 H with
    |none=>simp_all
    |some l=>
     simp[z] at h;subst h;have G:=aY hR V;simp only[gH,rep] at G;obtain⟨A,c,G,hlc,hcm,S⟩:=G;have I:H<=xs.length:=by rcases ja hR D B .sliceAcap with⟨_,e⟩|⟨_,_,_,e⟩<;>omega
     have Q:l<=H:=by rcases ja hR F z .sliceB with⟨_,e⟩|⟨_,_,_,e⟩<;>omega
     refine fc (s:=Instr.sliceAt t (a.eval x) (lo.map a.eval) (hi.map a.eval) none) (by unfold execOp;simp_all)
      (v:= .slice (if c=l then A else A.map (·.add (l *s))) (H-l) (c-l)) ?_ ?_
     .grind[NZ,kN]
     .show rep μ (.dK s ((xs.take H).drop l)) _;rw[rep];have hlen:((xs.take H).drop l).length=H-l:=aF;refine⟨_,_,by rw[hlen],by omega,by omega,?_⟩;rcases S with hz|⟨b,off,rfl,S⟩
      .omega
      .by_cases hc:c=l
       .omega
       .refine .inr ⟨b,off+l *s,by rw[au hc];simp[add_lit],?_⟩;simp_all[RR,RS]
   grind
  grind
 .rename_i e id lv hv R V F D;split at h
  .rename_i e' s e2 sz xs hs sg;obtain⟨q,inf,O,U⟩:=gw hs;rw[R] at q;injection q with q;injection q with q;subst q;split at h
   .rename_i H B;split at h
    .rename_i e;subst e;cases z:gX lv 0 H with
     |none=>simp_all
     |some l=>
      simp[z] at h;subst h;have G:a.eval x=loc id:=(aY hR V:a.eval x=fH (loc id)).trans (iS (hR.obs id _ sg));obtain⟨I,Q⟩:=K9 hR F D B z;obtain⟨vs,hown,hrc,_⟩:=hR.obs id _ sg;obtain⟨A,c,K,hlc,hA⟩:∃A c,loc id= .slice A xs.length c/\xs.length<=c/\(0<xs.length->∃g,A=some ⟨g,0,none⟩):=by
       rcases hown.2 with⟨e1,e2⟩|⟨g,cap,cur,e1,h2,h3,h4⟩
       .simp_all
       grind
      refine fc (s:=Instr.sliceAt t (a.eval x) (lo.map a.eval) (hi.map a.eval) none) (by unfold execOp;simp_all)
       (v:= .slice (if c=l then A else A.map (·.add (l *s))) (H-l) (c-l)) (NZ hR R (by rw[kN,O];grind) (G.trans K) hlc F D B z) ?_
      refine⟨A,_,c,_,_,K,Q,I,by omega,rfl,λe=> ?_,λhlt=> ?_⟩
      .simp_all[add_zero']
      .obtain⟨g,rfl⟩:=hA af;refine⟨g,rfl,?_⟩;rw[au af];simp[add_lit]
    grind
   grind
  grind
 .rename_i e id sz a' b' lv hv R V F D;split at h
  .rename_i e' s H hs B;obtain⟨q,inf,O,U⟩:=gw hs;rw[R] at q;injection q with q;injection q with q;subst q;split at h
   .rename_i e;subst e;cases z:gX lv 0 H with
    |none=>simp_all
    |some l=>
     simp[z] at h;subst h;obtain⟨A,n,c,A',c',K,hl1,hl2,hc',G,hz,hg⟩:=aY hR V;obtain⟨I,Q⟩:=K9 hR F D B z;refine fc (by unfold execOp;simp_all)
      (v:= .slice (if c'=l then A' else A'.map (·.add (l *s))) _ _) (NZ hR R (by rw[kN];grind) G hc' F D B z) ?_
     refine⟨A,_,c,(if c'=l then A' else A'.map (·.add (l *s))),c'-l,K,by omega,by omega,by omega,by grind,λe=> ?_,λhlt=> ?_⟩
     .simp_all[add_zero']
     .obtain⟨g,rfl,rfl⟩:=hg af;rw[au af];simp[add_lit,kj]
   grind
  grind
 grind
theorem KL {o:Oper} {x:Operand} {i:Nat} {G:SV} (z:o.op= .extract x i) (h:eY P o st=some G):nQ P μ loc o G a w:=by
 unfold eY at h;rw[z] at h;simp at h;split at h
 .rename_i H D;cases F:H[i]? with
  |none=>simp_all
  |some y=>simp[F] at h;subst h;have q:=aY hR D;obtain⟨K,q,l⟩:=q;obtain⟨u,I,B⟩:=sw l F;refine fc (by unfold execOp;rw[z]) ?_ B;simp_all[Instr.extract]
 .rename_i v b D;obtain⟨u,q,B⟩:=aY hR D;split at h
  .injection h with h;subst h;refine fc (by unfold execOp;rw[z]) ?_ B;rw[q];rfl
  .injection h with h;subst h;refine fc (by unfold execOp;rw[z]) ?_ (by rfl);rw[q];rfl
  grind
 grind
omit hR in
theorem AQ {F:List TypeId} {l:List Value} {z:List AV} (h:nv P F l=some z):j8 μ z l:=by induction F generalizing l z with
 |nil=>cases l with
  |nil=>simp[nv] at h;subst h;exact⟨dg,ah⟩
  |cons v l=>simp[nv] at h
 |cons t F H=>cases l with
  |nil=>simp[nv] at h
  |cons v l=>
   simp only[nv] at h;split at h
   .rename_i x xs q D;injection h with h;subst h;have G:=vQ (P:=P) (μ:=μ) q;have k:=H D;refine⟨bN G k.1,λu B=> ?_⟩;rcases aG.1 B with rfl|B
    .unfold ofConst at q;split at q<;>first|rfl|(cases q)
    .exact k.2 u B
   .cases h
omit hR in
theorem Sx {F:List TypeId} {q:List Value} {B:List AV} (h:nv P F q=some B) {k s:Nat} (z:B[k]? =some (.dK s [])):∃v,q[k]? =some v/\v= .slice none 0 0:=by induction F generalizing q B k with
 |nil=>cases q with
  |nil=>simp[nv] at h;subst h;simp at z
  |cons v q=>simp[nv] at h
 |cons t F I=>cases q with
  |nil=>simp[nv] at h
  |cons v q=>
   simp only[nv] at h;split at h
   .rename_i x xs l D;injection h with h;subst h;cases k with
    |zero=>
     simp at z;subst z;refine⟨v,rfl,?_⟩;unfold ofConst at l;split at l
     .cases l
     .cases l
     .cases l
     .rfl
     .cases l
     .cases l
     .split at l<;>cases l
     .cases l
    |succ k=>obtain⟨K,G,H⟩:=I D (by simpa using z);exact⟨K,by simpa using G,H⟩
   .cases h
omit hR in
theorem RP {z:List AV}:∀{k:Nat} {q:List Value} {u:Value} {a:AV},cn μ z q->q[k]? =some u->rep μ a u->cn μ (z.set k a) q:=by induction z with
 |nil=>intro k q u a h l _;simp only[cn] at h;subst h;simp at l
 |cons c z H=>intro k q u a h l D;obtain⟨v,F,rfl,G,B⟩:=h;cases k with
  |zero=>simp at l;subst l;exact⟨v,F,rfl,D,B⟩
  |succ k=>exact⟨v,F,rfl,G,H B (by simpa using l) D⟩
omit hR in
theorem qb {t:TypeId} {z:List AV} (h:zeroCells P t=some z):∃i v,P.info? t=some i/\i.zero=some v/\j8 μ z v.cells.toList:=by
 unfold zeroCells at h;split at h
 .rename_i i l;split at h
  .rename_i v q;exact⟨i,v,l,q,AQ h⟩
  .cases h
 .cases h
theorem wD {ty:Nat->TypeId} {l:List (Nat×Operand)} {q:List (Nat×AV)} (h:partsOf P ty st l=some q):
  q.map (·.1)=l.map (·.1)/\cn μ (q.map (·.2)) (l.map λp=>a.eval p.2):=by
 induction l generalizing q with
 |nil=>simp[partsOf] at h;subst h;exact⟨rfl,dg⟩
 |cons p l z=>grind[partsOf,bN,fu]
omit hR in
theorem Gm (z:List Value):∀(l:List Value) (q k:Nat),q+k+l.length<=z.length->
  ((l.zipIdx k).foldl (λ(B:Array Value) (p:Value×Nat)=>B.setIfInBounds (q+p.2) p.1) z.toArray)=(z.take (q+k)++l++z.drop (q+k+l.length)).toArray:=by
 intro l;induction l generalizing z with
 |nil=>intro q k h;simp
 |cons v l F=>intro q k h;simp only[List.zipIdx_cons,fD];simp only[bg] at h;have D:z.toArray.setIfInBounds (q+k) v=(z.set (q+k) v).toArray:=ah;rw[D,F (z.set (q+k) v) q (k+1) aF];congr 1;rw[<-kZ,List.take_succ_eq_append_getElem aF];simp only[List.getElem_set_self,List.take_set_of_le (aU _),bg];rw[List.drop_set_of_lt af];simp only[eT,eU,dh];congr 4;omega
omit hR in
theorem B3 {place:Nat->Option (Nat×Nat)} {cells S:List AV} {H:List Value} {G:List (Nat×AV)} {us:List (Nat×Value)}
  (h:wP place cells G=some S) (Q:j8 μ cells H) (F:G.map (·.1)=us.map (·.1)) (O:cn μ (G.map (·.2)) (us.map (·.2))) (U:∀p∈G,∀x,p.2≠ .lR x):
  ∃ws:List Value,Instr.fill place H.toArray us=some ws.toArray/\j8 μ S ws:=by
 induction G generalizing cells H us with
 |nil=>cases us with
  |nil=>simp[wP] at h;subst h;exact⟨H,by simp[Instr.fill],Q⟩
  |cons u us=>simp at F
 |cons p G ih=>cases us with
  |nil=>simp at F
  |cons u us=>
   obtain⟨i,x⟩:=p;obtain⟨i',y⟩:=u;simp only[aS,dN] at F;obtain⟨rfl,F⟩:=F;simp only[aS,cn] at O;obtain⟨u',us',e,hx,O⟩:=O;simp only[dN] at e;obtain⟨rfl,rfl⟩:=e;simp only[wP] at h;split at h
   .cases h
   .rename_i l size R;split at h
    .rename_i B;have K:=LR hx (λz=>U (i,x) ah z);have q:y.cells.size=size:=by
      have:=K.length;simpa[B.1] using this
     have hvl:=Q.length;have D:=((Q.take l).append K).append (Q.drop (l+size));obtain⟨ws,hw,hr⟩:=ih h D F O (λp hp=>U p (by simp[hp]));refine⟨ws,?_,hr⟩;simp only[Instr.fill,R];have V:¬(l+y.cells.size>H.toArray.size):=aF;rw[au (by simp[q];omega)];rw[<-hw];congr 1;have I:=Gm H y.cells.toList l 0 aF;simp only[qx,zC,q] at I;rw[<-I,<-Array.foldl_toList,PF]
    .cases h
omit hR in
theorem run_places (l:List Field) (q:l.all (λf=>(kN P f.type).isSome)=true):
  (l.mapM (λf=>Functor.map (Prod.mk f.offset) (sizeOf f.type)):Sem (List (Nat×Nat))).run P w= .ok (l.map λf=>(f.offset,(kN P f.type).getD 0)) w:=by
 induction l with
 |nil=>rfl
 |cons f l B=>simp only[gP,aJ] at q;obtain⟨n,z⟩:=kn.1 q.1;simp[zD,kz z,z,B q.2]
omit hR in
theorem Gl {t:List TypeId}:∀{F:List Nat} {z B:List AV} {q:List Value},nv P t q=some z->Ec F z=some B->j8 μ B q
 |[],z,B,q,h,l=>by simp only[Ec,aN] at l;subst l;exact AQ h
 |k::F,z,B,q,h,l=>by
  simp only[Ec] at l;split at l
  .rename_i s H;obtain⟨K,G,rfl⟩:=bZ.1 l;have D:=Gl h G;obtain⟨v,I,e⟩:=Sx h H;subst e;refine⟨?_,D.2⟩;have:=RP D.1 I (a:= .qm) (by simp[rep]);exact this
  .cases l
omit hR in
theorem L4 {h:Hint} {d:Option Nat} {t:TypeId} {z:List AV} (q:L3 P h d t=some z):∃i v,P.info? t=some i/\i.zero=some v/\j8 μ z v.cells.toList:=by
 unfold L3 at q;split at q
 .rename_i H G;obtain⟨I,l,B⟩:=dM.1 q;unfold zeroCells at l;split at l
  .rename_i i D;split at l
   .rename_i v F;exact⟨i,v,D,F,Gl l B⟩
   .cases l
  .cases l
 .exact qb q
theorem Bx {o:Oper} {V:Option (List AV)} {t:TypeId} {l:Array (Nat×Operand)} {U:SV} (G:∀z,V=some z->∃i v,P.info? t=some i/\i.zero=some v/\j8 μ z v.cells.toList) (S:o.op= .build t l) (h:yj P V t l st=some U):nQ P μ loc o U a w:=by
 unfold yj at h;split at h
 .rename_i fs hu;split at h
  .rename_i z Q B;split at h
   .rename_i q;obtain⟨q,K⟩:=q;cases D:wP (ow P t) z Q with
    |none=>simp_all
    |some R=>
     simp[D] at h;subst h;obtain⟨i,v,hi,hv,I⟩:=G z rfl;obtain⟨h1,h2⟩:=wD hR B
     obtain⟨ws,hw,F⟩:=B3 (us:=l.toList.map λp=>(p.1,a.eval p.2)) D I (by simp_all) (by simp_all[eV,ko]) (λp O x e=>by
      have:=cz.1 q p O
      rw[e] at this;cases this)
     refine fc (s:=Instr.build t (l.map λp=>(p.1,a.eval p.2))) (by unfold execOp;rw[S]) (v:= .agg ws.toArray) ?_ ?_
     .obtain⟨H⟩:=fs;have QG:=run_places (w:=w) H K;have hpe:(λx=>Option.map (λf:Field=>(f.offset,(kN P f.type).getD 0)) H[x]?)=ow P t:=by
       funext x;simp only[ow,vH,hu,Fy];cases hx:H[x]? with
       |none=>rfl
       |some fd=>grind[Option.isSome_iff_exists,List.all_eq_true,List.mem_of_getElem?]
      simp_all[Array.toArray_toList,Instr.build,zeroValue,typeInfo,bJ]
     .show rep μ (.agg R) _;exact⟨ws,rfl,F.1,F.2⟩
   grind
  grind
 .split at h
  .rename_i z Q s B hs;split at h
   .rename_i q;cases D:wP (λi=>some (i *s,s)) z Q with
    |none=>simp_all
    |some R=>
     simp[D] at h;subst h;obtain⟨i,v,hi,hv,I⟩:=G z rfl;obtain⟨h1,h2⟩:=wD hR B
     obtain⟨ws,hw,F⟩:=B3 (us:=l.toList.map λp=>(p.1,a.eval p.2)) D I (by simp_all) (by simp_all[ko]) (λp O x e=>by
      have:=cz.1 q p O
      rw[e] at this;cases this)
     refine fc (by unfold execOp;rw[S]) (v:= .agg ws.toArray) ?_ ?_
     .simp_all[Instr.build,zeroValue,typeInfo,bJ,kz]
     .exact⟨ws,rfl,F.1,F.2⟩
   grind
  grind
 grind
theorem QA {o:Oper} {B:Hint} {t:TypeId} {l:Array (Nat×Operand)} {q:SV} (D:o.op= .build t l) (h:yj P (L3 P B o.dst t) t l st=some q):nQ P μ loc o q a w:=
 Bx hR (λz F=>L4 F) D h
omit hR in
theorem KI {l:TypeDesc} {V:TypeId} (Q:P.underlying V=some l) {key:AV} {O:Value} (I:rep μ key O) (z:jE P V key=true):∀{G:List AV} {cN:List MapEntry} {r:Option Nat} (i:Nat),cn μ G (cN.map (·.key))->pJ key G=some r->
  (match r with
  |some j=>∃e,cN[j]? =some e/\Instr.findNow l O cN i=some (some (i+j,e.val))/\∃x,G[j]? =some x/\vK key x=some true
  |none=>Instr.findNow l O cN i=some none):=by
 intro G;induction G with
 |nil=>
  intro cN r i h q;simp only[pJ,aN] at q;subst q;rw[cn] at h
  have:cN=[]:=by simpa using h
  subst this;rfl
 |cons x G ih=>intro cN r i h q;rw[cn] at h;obtain⟨u,us,e,D,F⟩:=h;cases cN with
  |nil=>simp at e
  |cons S cN=>
   simp only[aS,dN] at e;obtain⟨rfl,rfl⟩:=e;have same:∀b,vK key x=some b->Instr.sameNow l O S.key=some b:=by
    intro b H;unfold vK at H;split at H
    .rename_i s t;rw[rep] at I D;rw[I,D];simp only[jE,Q] at z;cases l<;>simp at z;simp only[Instr.sameNow,adi];exact H
    .rename_i k s k' t;rw[rep] at I D;rw[I,D];simp only[jE,Q] at z;cases l<;>simp at z;simp only[Instr.sameNow];exact H
    .rename_i s t;rw[rep] at I D;rw[I,D];simp only[jE,Q] at z;cases l<;>simp at z;simp only[Instr.sameNow];exact H
    .cases H
   simp only[pJ] at q;split at q
   .rename_i K;injection q with q;subst q;have B:=same _ K;exact⟨S,rfl,by simp only[Instr.findNow,B];simp,x,rfl,K⟩
   .rename_i K;have B:=same _ K;cases R:pJ key G with
    |none=>simp[R] at q
    |some r'=>simp[R] at q;subst q;have U:=ih (i+1) F R;cases r' with
     |none=>simp only[zF,Instr.findNow,B];exact U
     |some j=>obtain⟨e,he,q,D⟩:=U;exact⟨e,by simpa using he,by simp only[Instr.findNow,B,q];congr 3;omega,by simpa using D⟩
   .cases q
omit hR in
theorem iT {B:TypeId} {key:AV} {D:Value} (q:rep μ key D) (l:jE P B key=true) (b:Bool) (w:World):(Instr.checkKey b 10000 B D).run P w= .ok () w:=by
 have key:∀n,(Instr.checkKey b (n+1) B D).run P w= .ok () w:=by
  intro n;unfold jE at l;split at l
  .rename_i z;rw[rep] at q;subst q;simp[Instr.checkKey,bJ z]
  .rename_i z;rw[rep] at q;subst q;simp[Instr.checkKey,bJ z]
  .rename_i z;rw[rep] at q;subst q;simp[Instr.checkKey,bJ z]
  .cases l
 exact key 9999
omit hR in
theorem Ul {z:TypeId} {key:AV} (l:jE P z key=true):∃q,P.underlying z=some q:=by
 unfold jE at l;split at l
 .exact⟨_, ‹_›⟩
 .exact⟨_, ‹_›⟩
 .exact⟨_, ‹_›⟩
 .cases l
omit hR in
theorem og {B:TypeId} {key:AV} {D:Value} (I:rep μ key D) (l:jE P B key=true) {ks:List AV} {cN:List MapEntry} {r:Option Nat} (h:cn μ ks (cN.map (·.key))) (H:pJ key ks=some r) (w:World):
  match r with
  |some j=>∃e,cN[j]? =some e/\(Instr.findKey B D cN).run P w= .ok (some (j,e.val)) w/\∃x,ks[j]? =some x/\vK key x=some true
  |none=>(Instr.findKey B D cN).run P w= .ok none w:=by
 obtain⟨F,z⟩:=Ul l;have q:=KI z I l 0 h H;cases r with
 |none=>simp only[] at q⊢;simp[Instr.findKey,bJ z,q]
 |some j=>obtain⟨e,G,K,O⟩:=q;exact⟨e,G,by simp[Instr.findKey,bJ z,K],O⟩
omit hR in
theorem AR {t:TypeId} {z:AV} (h:pH P t=some z) (w:World):∃v,(zeroValue t).run P w= .ok v w/\rep μ z v:=by
 unfold pH at h;split at h
 .rename_i i G;have l:∀v,i.zero=some v->(zeroValue t).run P w= .ok v w:=λv H=>by simp[zeroValue,typeInfo,G,H]
  split at h
  .rename_i D B;cases q:nv P (vD P 8 t) D.toList with
   |none=>simp[q] at h
   |some I=>simp[q] at h;subst h;have F:=AQ (μ:=μ) q;refine⟨_,l _ B,?_⟩;rw[rep];exact⟨D.toList,by simp,F.1,F.2⟩
  .rename_i v _ B;exact⟨v,l v B,vQ h⟩
  .cases h
 .cases h
theorem MO {o:Oper} {t:TypeId} {x k:Operand} {ok:Bool} {sv:SV} (ho:o.op= .lookup t x k ok) (h:eY P o st=some sv):nQ P μ loc o sv a w:=by
 unfold eY at h;rw[ho] at h;simp only[] at h;split at h
 .rename_i kt et hu;split at h
  .rename_i ks key hx hk;cases l:(ok&&jE P kt key&&(pH P et).isSome) with
   |false=>simp_all
   |true=>
    simp only[l,ai,bZ] at h;obtain⟨r,S,rfl⟩:=h;simp only[aJ] at l;obtain⟨⟨V,l⟩,hzz⟩:=l;subst V;have q:=fu hR hk;obtain⟨sx,Q,D⟩:=dM.1 hx;unfold FW at D;split at D
    .rename_i id;split at D
     .rename_i k' e' sz' ks' vs' sg;injection D with D;subst D;have I:a.eval x=fH (loc id):=aY hR Q;obtain⟨b,cN,O,us,hl,_,U,_,h1,h2,h3,h4,h5,_⟩:=hR.obs id _ sg;have I:a.eval x= .map (some b):=by rw[I,hl];rfl
      have B:=og q l h1 S w;have fin:∀y,(Instr.lookup t (a.eval x) (a.eval k) true).run P w= .ok (.tuple #[y, .bool r.isSome]) w->nQ P μ loc o (.two .any r.isSome) a w:=λy hr=>fc (s:=Instr.lookup t (a.eval x) (a.eval k) true) (by unfold execOp;rw[ho]) hr ⟨y,rfl,trivial⟩
      cases r with
      |none=>simp only[] at B;obtain⟨z,R⟩:=kn.1 hzz;obtain⟨zv,H,_⟩:=AR (μ:=μ) R w;refine fin zv ?_;rw[I];simp[Instr.lookup,bJ hu,ic U,iT q l,B,H]
      |some j=>obtain⟨e,he,G,_⟩:=B;refine fin e.val ?_;rw[I];simp[Instr.lookup,bJ hu,ic U,iT q l,G]
     simp_all
    simp_all
  split at h
  .rename_i ks vs key hx hk;cases l:jE P kt key with
   |false=>simp_all
   |true=>
    simp only[l,ai] at h;have q:=fu hR hk;obtain⟨sx,Q,D⟩:=dM.1 hx;have hm:=IT hR D (aY hR Q);have fin:∀(y:AV) (b:Bool) (K:Value),rep μ y K->rep _ (found ok y b) (if ok=true then .tuple #[K, .bool b] else K):=λy b K hy=>by cases ok with
     |false=>exact hy
     |true=>exact⟨_,rfl,bN hy (bN (by simp[rep]) dg)⟩
    have run:∀(y) (b) (K),rep _ y K->(Instr.lookup t _ _ _).run P w= .ok _ w->nQ P _ loc o (.pv _) a w:=λy b K hy hr=>fc (by unfold execOp;rw[ho]) hr (fin y b _ hy)
    unfold Uu at h;rcases hm with⟨I,rfl,rfl⟩|⟨b,cN,O,I,U,h1,h2⟩
    .simp[pJ] at h;cases R:pH P et with
     |none=>simp_all
     |some z=>simp[R] at h;subst h;obtain⟨zv,H,F⟩:=AR R w;refine run z _ _ F ?_;have B:=og q l (ks:=[]) (cN:=[]) (by rfl) rfl w;rw[I];simp[Instr.lookup,bJ hu,iT q l,B,H]
    .cases S:pJ key ks with
     |none=>simp_all
     |some r=>have B:=og q l h1 S w;cases r with
      |none=>simp[S] at h;cases R:pH P et with
       |none=>simp_all
       |some z=>simp[R] at h;subst h;obtain⟨zv,H,F⟩:=AR R w;refine run z _ _ F ?_;rw[I];simp[Instr.lookup,bJ hu,ic U,iT q l,B,H]
      |some j=>simp[S] at h;cases hg:vs[j]? with
       |none=>simp_all
       |some y=>
        simp[hg] at h;subst h;obtain⟨e,he,G,_⟩:=B;obtain⟨K,Pu,hyr⟩:=sw h2 hg;have :=by
         have he' :=by simpa using he
         simp[he'] at Pu;exact Pu.symm
        subst this;refine run y _ _ hyr ?_;rw[I];simp[Instr.lookup,bJ hu,ic U,iT q l,G]
  grind
 grind
theorem MP {o:Oper} {t:TypeId} {x H:Operand} {lo D:Option Operand} {I:SV} (V:o.op= .slice t x lo D (some H)) (h:eY P o st=some I):nQ P μ loc o I a w:=by
 unfold eY at h;rw[V] at h;simp only[VO] at h;split at h
 rotate_left
 .cases h
 rename_i D;split at h
 .rename_i id hx;split at h
  .rename_i Q sz xs e s ka va kb vb q hs R U;split at h
   .injection h with h;subst h;obtain⟨hu,inf,G,hsz⟩:=gw hs;have hxv :=(aY hR hx).trans (iS (hR.obs _ _ q));have B:=aY hR R;have F:=aY hR U;simp[gH,rep] at B F;obtain⟨vs,z,hrc,_⟩:=hR.obs _ _ q;obtain⟨A,c,l,S,hA⟩:∃A c,loc id= .slice A xs.length c/\xs.length<=c/\(A.map (·.add (0 *s))=A):=by
     rcases z.2 with⟨e1,Q⟩|⟨g,K,O,e1,h2,h3,h4⟩
     .simp_all
     grind[add_zero']
    refine fc (s:=Instr.sliceAt t (a.eval x) (none) (some (a.eval D)) (some (a.eval H))) (by unfold execOp;simp_all) ?_ ⟨A,_,c,l,rfl⟩;simp_all[Instr.sliceAt,Instr.slice,bJ,Instr.sliceBounds,Instr.sliceBound,asIntOf,sizeOf,typeInfo]
   grind
  grind
 grind
theorem vh {o:Oper} {B:SV} (h:eY P o st=some B):nQ P μ loc o B a w:=by
 have l:=h;unfold eY at l;split at l
 .grind[B7]
 .rename_i x q;exact B7 hR (.inr q) l
 .grind[TM]
 .grind[X0]
 .grind[aav]
 .grind[KK]
 .grind[FQ]
 .grind[IA]
 .grind[GC]
 .grind[QB]
 .grind[GD]
 .grind[QC]
 .grind[TK]
 .grind[QD]
 .grind[MP]
 .grind[KL]
 .grind[MO]
 .rename_i q;exact Bx hR (λz D=>qb D) q af
 simp_all
end
end
