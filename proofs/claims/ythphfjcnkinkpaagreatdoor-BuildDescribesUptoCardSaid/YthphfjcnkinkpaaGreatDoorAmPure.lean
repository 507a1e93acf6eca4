/- THE ABSTRACT MACHINE. -/
import Derived.Test.YthphfjcnkinkpaaGreatDoorAmRel
import Derived.Laws.Strings
import Derived.Laws.StructEq
set_option linter.all false
namespace Go.AM
section
variable {P:Program} {μ:Mu} {loc:Nat->Value} {w:World}
def xo {t:TypeId} {v:Value} {x:AV} (h:ofConst P t v=some x):rep μ x v:=by
 unfold ofConst at h;split at h
 .grind[rep]
 .grind[rep]
 .grind[rep]
 .cases l:isSlice P t with
  |none=>simp_all
  |some y=>simp[l] at h;subst h;exact⟨_,0,rfl,aZ _,cZ _, .inl rfl⟩
 .grind[rep]
 .grind[rep,Value.oneCell',Value.cells]
 .split at h
  .injection h with h;subst h;rw[rep];simp
  grind
 grind
def rK {t:TypeId} {b:Bool} (h:DZ P t=some b) (w:World):(isAgg t).run P w= .ok b w:=by
 unfold DZ at h;unfold isAgg;split at h
 .simp_all[bW]
 .simp_all[bW]
 .rename_i d q z l;injection h with h;subst h;simp only[jq,bW l,kM];rfl
 grind
def kU {t:TypeId} {n:Nat} (h:lB P t=some n) (w:World):(sizeOf t).run P w= .ok n w:=by unfold lB at h;cases l:P.info? t with
 |none=>simp_all
 |some i=>simp_all[sizeOf,typeInfo]
def gb {t:TypeId} {e:TypeId} {s:Nat} (h:isSlice P t=some (e,s)):P.underlying t=some (.slice e)/\∃i,P.info? e=some i/\i.size=s:=by
 unfold isSlice at h;split at h
 .rename_i l z;cases q:P.info? l with
  |none=>simp_all
  |some i=>simp_all
 grind
theorem add_lit (b l j:Nat):(⟨b,l,none⟩:Addr).add j=⟨b,l+j,none⟩:=by simp_all[Addr.add]
theorem add_zero' (p:Addr):p.add 0=p:=by rfl
def sJ {t:TypeId} {ad:Addr} {D:List AV} {z:List Value} {x:AV} (q:iU P t D=some x) (B:lF μ D z)
  (l:∀j v,z[j]? =some v->w.cell? (ad.add j)=some v):∃v,(loadVar t ad).run P w= .ok v w/\rep μ x v:=by
 unfold iU at q;split at q
 .rename_i n I O;split at q
  .injection q with q;subst q;have K:(z.take n).length=n:=by rw[e7,B.length];omega
   have G:=A8 (P:=P) w _ (z.take n) (λj v F=>l j v (by grind));refine⟨.agg (z.take n).toArray,?_,?_⟩
   .simp_all[loadVar,rK,kU]
   .exact⟨_,rfl,(B.take n).1,(B.take n).2⟩
  simp_all
 .obtain⟨v,F,G⟩:=tB B.1 q;have H:=l 0 v F;simp_all[Addr.add,loadVar,rK]
 simp_all
def K0 {t:TypeId} {D:List AV} {B:List Value} {x:AV} (q:Nat) (l:iU P t (D.drop q)=some x) (z:lF μ D B):
  ∃v,(part t B.toArray q).run P w= .ok v w/\rep μ x v:=by
 unfold iU at l;split at l
 .rename_i n F G;split at l
  .injection l with l;subst l;refine⟨.agg ((B.drop q).take n).toArray,?_,?_⟩
   .simp[part,rK F,kU G]
   .exact⟨_,rfl,((z.drop _).take n).1,((z.drop _).take n).2⟩
  simp_all
 .obtain⟨v,I,H⟩:=tB (z.drop _).1 l;simp_all[part,rK]
 simp_all
def Nv {xs:List SV} {l:List Value} (h:gY μ loc xs l) {i:Nat} {x:SV} (q:xs[i]? =some x):∃v,l[i]? =some v/\fW μ loc x v:=by induction xs generalizing l i with
 |nil=>simp at q
 |cons y xs D=>obtain⟨u,F,rfl,z,B⟩:=h;grind
theorem qm {xs:List SV} {l:List Value} (h:gY μ loc xs l):l.length=xs.length:=by induction xs generalizing l with
 |nil=>exact aU _ h
 |cons x xs z=>obtain⟨u,B,rfl,_,q⟩:=h;simp_all
theorem DO {xs:List SV} {l:List Value} (h:gY μ loc xs l) (n:Nat):gY μ loc (xs.drop n) (l.drop n):=by induction n generalizing xs l with
 |zero=>assumption
 |succ n z=>cases xs with
  |nil=>simp_all[gY]
  |cons x xs=>obtain⟨u,B,rfl,_,q⟩:=h;simp_all
theorem DP {xs:List SV} {l:List Value} (h:gY μ loc xs l) (n:Nat):gY μ loc (xs.take n) (l.take n):=by induction n generalizing xs l with
 |zero=>rfl
 |succ n B=>cases xs with
  |nil=>simp_all[gY]
  |cons x xs=>obtain⟨u,D,rfl,q,z⟩:=h;exact⟨u,_,by simp,q,B z⟩
theorem mu {xs z:List SV} {l q:List Value} (h:gY μ loc xs l) (k:gY μ loc z q):gY μ loc (xs++z) (l++q):=by induction xs generalizing l with
 |nil=>have:l=[]:=h;simp_all
 |cons x xs F=>obtain⟨u,G,rfl,B,D⟩:=h;exact⟨u,_,by simp,B,F D⟩
def sG {l:List AV} {q:List Value} (h:cS μ l q):gY μ loc (l.map .pv) q:=by induction l generalizing q with
 |nil=>assumption
 |cons x xs D=>obtain⟨u,F,rfl,z,B⟩:=h;exact⟨u,F,rfl,z,D B⟩
def RP {xs:List SV} {q:List oJ} {B:List Value} (h:wW xs=some q) (k:gY μ loc xs B):kK μ loc q B:=by induction xs generalizing q B with
 |nil=>simp[wW,bq] at h;subst h;exact k
 |cons x xs G=>obtain⟨u,H,rfl,D,F⟩:=k;cases x with
  |pv v=>simp[wW,cH] at h;obtain⟨z,l,rfl⟩:=h;exact⟨u,H,rfl,D,G l F⟩
  |row id=>simp[wW,cH] at h;obtain⟨z,l,rfl⟩:=h;exact⟨u,H,rfl,D,G l F⟩
  |_=>simp[wW] at h
def G0 {xs:List SV} {l:List AV} {q:List Value} (h:mM xs=some l) (k:gY μ loc xs q):cS μ l q:=by induction xs generalizing q l with
 |nil=>simp[mM] at h;subst h;assumption
 |cons x xs F=>cases x with
  |pv v=>simp[mM] at h;cases z:mM xs with
   |none=>simp_all
   |some G=>simp[z] at h;subst h;obtain⟨u,H,rfl,B,D⟩:=k;exact cT B (F z D)
  |_=>simp[mM] at h
theorem dg {q:Nat} {xs:List (List AV)} {l:List Value} (h:dc μ q xs l):l.length=xs.length *q:=by induction xs generalizing l with
 |nil=>have:l=[]:=h;simp_all
 |cons x xs D=>obtain⟨F,ws,rfl,_,z,B⟩:=h;grind
def PS {q:Nat} {xs:List (List AV)} {z:List Value} (h:dc μ q xs z) {i:Nat} {x:List AV} (B:xs[i]? =some x):
  ∃l:List Value,lF μ x l/\l.length=q/\∀j u,l[j]? =some u->z[i *q+j]? =some u:=by
 induction xs generalizing z i with
 |nil=>simp at B
 |cons y xs H=>obtain⟨l,ws,rfl,D,F,G⟩:=h;cases i with
  |zero=>grind
  |succ i=>grind
end
section
variable {P:Program} {N:Nat} {w0:World} {μ0:Mu} {L:s8} {μ:Mu} {loc:Nat->Value} {st:St} {a:Act} {w:World}
theorem bp (hR:Rel N w0 μ0 L μ loc st a w) {t:TypeId} {x:Operand} {q:SV} (h:bP P t st x=some q):fW μ loc q (a.eval x):=by cases x with
 |tmp i=>obtain⟨v,B,z⟩:=hR.env i _ h;simp_all[Act.eval]
 |const v=>simp[bP] at h;cases l:ofConst P t v with
  |none=>simp_all
  |some y=>simp[l] at h;subst h;exact xo l
 |func f=>simp[bP] at h;subst h;exact⟨[],rfl,dY⟩
 |global g=>simp[bP] at h
theorem gO (hR:Rel N w0 μ0 L μ loc st a w) {t:TypeId} {x:Operand} {v:AV} (h:(bP P t st x).bind kR =some v):rep μ v (a.eval x):=by cases l:bP P t st x with
 |none=>simp_all
 |some q=>have:=bp hR l;cases q<;>simp[l,kR] at h;subst h;exact this
def Si (op:BinOp) (t:TypeId) (X Y:Operand) (k k':IntKind) (n m:Int) (w:World):(eqGuard op t X Y (.int k n) (.int k' m)).run P w= .ok () w:=by unfold eqGuard;simp
def Sj (op:BinOp) (t:TypeId) (X Y:Operand) (x y:ByteArray) (w:World):(eqGuard op t X Y (.string x) (.string y)).run P w= .ok () w:=by unfold eqGuard;simp
def Ou (op:BinOp) (t:TypeId) (X Y:Operand) (x y:Bool) (w:World):(eqGuard op t X Y (.bool x) (.bool y)).run P w= .ok () w:=by unfold eqGuard;simp
def run_equalIn_bool (d:Nat) {t:TypeId} (l:P.underlying t=some .bool) (x y:Bool) (w:World):(Op.equalIn (d+1) t (.bool x) (.bool y)).run P w= .ok (x==y) w:=by simp[Op.equalIn,bW l]
def ad6 (a b:List UInt8):((⟨a.toArray⟩:ByteArray)==⟨b.toArray⟩)=(a==b):=by
 show(a.toArray==b.toArray)=(a==b)
 simp
def ZH {t:TypeId} {a:AV} (h:oq P t a=true):DZ P t=some false:=by unfold oq at h;grind[DZ]
def GM {xs Q:List AV} {vs V:List Value} (S:lF μ xs vs) (U:lF μ Q V) (d:Nat):∀{F:List Field} {b:Bool},ME P xs Q F=some b->(Op.eqFields (d+1) vs.toArray V.toArray F).run P w= .ok b w
 |[],b=>λh=>by simp_all[ME,Op.eqFields]
 |f::F,b=>λh=>by
  unfold ME at h;split at h
  .rename_i R z G H;cases I:(!(f.name== "_")&&oq P f.type R&&oq P f.type z&&(lB P f.type).isSome) with
   |false=>simp_all
   |true=>
    simp[I] at h;simp at I;obtain⟨⟨⟨hn,l⟩,hky⟩,O⟩:=I;obtain⟨n,D⟩:=q8.1 O;have B:=ZH l;have t1:iU P f.type (xs.drop f.offset)=some R:=by unfold iU;rw[B,D];simpa using G
    have t2:iU P f.type (Q.drop f.offset)=some z:=by unfold iU;rw[B,D];simpa using H
    obtain⟨v,hv,rv⟩:=K0 (w:=w) _ t1 S;obtain⟨u,hu,ru⟩:=K0 (w:=w) _ t2 U;split at h
    .rename_i r q K hq;injection h with h;subst h;have ih:=GM S U d hq;have he:(Op.equalIn (d+1) f.type v u).run P w= .ok r w:=by
      unfold oq at l;split at l
      .cases z<;>simp[xb] at K;simp_all[rep,run_equalIn_string]
      .cases z<;>simp[xb] at K;simp_all[rep,run_equalIn_int]
      .cases z<;>simp[xb] at K;simp_all[rep,run_equalIn_bool']
      .cases l
     simp[Op.eqFields,aB hn,jq,hv,hu,he,kM,Sem.run_ite,ih];cases r<;>simp
    grind
  grind
def NZ {op:BinOp} {t:TypeId} {xs F:List AV} {r:AV} {X Y:Operand} {u v:Value} (h:UK P op t xs F=some r) (Q:rep μ (.agg xs) u) (R:rep μ (.agg F) v):
  ∃z,(do eqGuard op t X Y u v;binOp op t u v).run P w= .ok z w/\rep μ r z:=by
 obtain⟨vs,rfl,H,I⟩:=Q;obtain⟨V,rfl,S,U⟩:=R;unfold UK at h;split at h
 .rename_i G D;cases l:(!(P.stoodInHeld t)&& !(P.eqGuardType P.depth t)) with
  |false=>simp_all
  |true=>
   simp[l] at h;simp at l;have B:P.fieldsOf t=G:=by unfold Program.fieldsOf;rw[D]
   have q:P.underlying t=some (.struct (P.fieldsOf t)):=by rw[B];exact D
   have O:∀b,ME P _ _ _=some b->(Op.equalIn 10000 t _ _).run P w= .ok b w:=λb K=>by rw[run_equalIn_struct w _ t _ _ q l.1,B];exact GM ⟨H,I⟩ ⟨S,U⟩ _ K
   simp[jq,run_eqGuard_agg w _ t X Y _ _ l.2];split at h
   .injection h with h;subst h;simp_all[binOp,Op.equal,Op.maxDepth,rep]
   .injection h with h;subst h;simp_all[binOp,Op.equal,Op.maxDepth,rep]
   grind
 grind
def Y1 {op:BinOp} {t:TypeId} {x y r:AV} {X Y:Operand} {u v:Value} (h:bin P op t x y=some r) (l:rep μ x u) (q:rep μ y v):
  ∃z,(do eqGuard op t X Y u v;binOp op t u v).run P w= .ok z w/\rep μ r z:=by
 cases x with
 |int k n=>cases y with
  |int k' m=>
   rw[rep] at l q;subst l;subst q;simp only[jq,Si,kM];unfold bin at h;cases op
   case shl=>
    simp only[B6] at h;split at h
    .cases h
    .injection h with h;subst h;rename_i B;exact⟨_,by simp[binOp,Op.shift,B];rfl,by simp[rep]⟩
   case shr=>
    simp only[B6] at h;split at h
    .cases h
    .injection h with h;subst h;rename_i B;exact⟨_,by simp[binOp,Op.shift,B];rfl,by simp[rep]⟩
   case quo=>
    simp only[] at h;split at h
    .rename_i e;subst e;simp only[Ga] at h;split at h
     .cases h
     .injection h with h;subst h;simp_all[binOp,Op.intDiv,rep]
    grind
   case rem=>
    simp only[] at h;split at h
    .rename_i e;subst e;simp only[Ga] at h;split at h
     .cases h
     .injection h with h;subst h;simp_all[binOp,Op.intDiv,rep]
    grind
   all_goals
    simp only[] at h;split at h
    .rename_i e;subst e;simp only[Ga,bq] at h;subst h;simp_all[binOp,Op.intArith,Op.intBits,Op.intCmp,rep]
    grind
  |_=>simp[bin] at h
 |str s=>cases y with
  |str D=>
   rw[rep] at l q;subst l;subst q;simp only[jq,Sj,kM];unfold bin at h;simp only[WM] at h;cases op
   case add=>
    simp only[] at h;split at h
    .injection h with h;subst h;refine⟨.string ⟨(s++D).toArray⟩,?_,by simp[rep]⟩;have B:¬((((⟨s.toArray⟩:ByteArray).size+(⟨D.toArray⟩:ByteArray).size))>IntKind.i64.max):=by
      simp[ByteArray.size];omega
     have e:(⟨s.toArray⟩:ByteArray)++⟨D.toArray⟩=⟨_⟩:=rfl;simp_all[binOp,Op.stringOp]
    grind
   all_goals first
    |grind
    |(simp at h;subst h;simp_all[binOp,Op.stringOp,rep])
  |_=>simp[bin] at h
 |bool b=>cases y with
  |bool c=>
   subst l;subst q;simp[jq,Ou];unfold bin at h;simp at h;split at h
   .injection h with h;subst h;simp_all[binOp,Op.equal,Op.maxDepth,run_equalIn_bool,rep]
   .injection h with h;subst h;simp_all[binOp,Op.equal,Op.maxDepth,run_equalIn_bool,rep]
   grind
  |_=>simp[bin] at h
 |agg xs=>cases y with
  |agg F=>exact NZ (by assumption) l q
  |_=>simp[bin] at h
 |_=>simp[bin] at h
def aei {op:UnOp} {x r:AV} {u:Value} (h:un op x=some r) (l:rep μ x u):∃z,(Op.unary op u).run P w= .ok z w/\rep μ r z:=by
 unfold un at h;split at h
 .injection h with h;subst h;simp_all[rep,Op.unary,Op.intArith]
 .injection h with h;subst h;simp_all[rep,Op.unary]
 grind
def jF {B:Nat} {id:Nat} {e:TypeId} {D:Nat} {xs:List (List AV)} (h:nY B L μ loc w id (.row e D xs)):gp (loc id)=loc id:=by obtain⟨F,l,_⟩:=h;rcases l.2 with⟨e1,_⟩|⟨g,q,z,e1,_⟩<;>rw[e1]<;>rfl
def W9 {D:Nat} {id:Nat} {k e:TypeId} {B q:List AV} (h:nY D L μ loc w id (.mp k e B q)):gp (loc id)=loc id:=by obtain⟨b,eS,l,z,_⟩:=h;rw[z];rfl
def uv {q b:Nat} {xs:List (List AV)} {l:Nat} (h:lH μ q b xs l):∃z,dc μ q xs z/\∀j u,z[j]? =some u->μ b (l+j)=some u:=by induction xs generalizing l with
 |nil=>exact⟨[],rfl,ai⟩
 |cons x xs H=>obtain⟨⟨K,B,D,F,O⟩,G⟩:=h;obtain⟨ws,I,R⟩:=H G;refine⟨_,⟨K,ws,rfl,⟨B,D⟩,F,I⟩,λj u Q=> ?_⟩;grind
def kL {B:Nat} {xs:List (List AV)} {q:List Value} (h:dc μ B xs q):∀u∈q,u.oneCell'=true:=by induction xs generalizing q with
 |nil=>have:q=[]:=h;simp_all
 |cons x xs G=>
  obtain⟨a,b,rfl,z,D,F⟩:=h;intro u l;rcases bu.1 l with l|l
  .exact z.2 u l
  grind
def kS {l:Nat} {xs:List (List AV)} {q:List Value} (h:dc μ l xs q) (n:Nat):dc μ l (xs.take n) (q.take (n *l)):=by induction n generalizing xs q with
 |zero=>simp[dc]
 |succ n F=>cases xs with
  |nil=>simp_all[dc]
  |cons x xs=>obtain⟨G,ws,rfl,z,B,D⟩:=h;refine⟨G,_,?_,z,B,F D⟩;grind[Nat.add_mul]
def Db {l:Nat} {xs:List (List AV)} {q:List Value} (h:dc μ l xs q) (n:Nat):dc μ l (xs.drop n) (q.drop (n *l)):=by induction n generalizing xs q with
 |zero=>simp_all
 |succ n G=>cases xs with
  |nil=>simp_all[dc]
  |cons x xs=>obtain⟨z,ws,rfl,B,D,F⟩:=h;rw[show(n+1) *l=z.length+n *l from by grind,A9];simp_all
theorem tP (hR:Rel N w0 μ0 L μ loc st a w) {v:SV} {u:Value} {sz:Nat} {xs:List (List AV)} (q:elems st v=some (sz,xs)) (R:fW μ loc v u):
  ∃A c,u= .slice A xs.length c/\∃D,dc μ sz xs D/\(xs.length=0\/∃ad:Addr,A=some ad/\∀j x,D[j]? =some x->w.cell? (ad.add j)=some x):=by
 cases v with
 |pv v=>cases v with
  |dG V I=>
   obtain⟨rfl,rfl⟩:=q;obtain⟨A,c,e1,_,_,h3⟩:=R;rcases h3 with h0|⟨b,off,rfl,H⟩
   .have :=lV h0;subst this;exact⟨A,c,e1,[],rfl, .inl rfl⟩
   .obtain⟨D,k1,k2⟩:=uv H;exact⟨_,c,e1,D,k1, .inr ⟨_,rfl,λj u hu=>by rw[add_lit];exact yK (hR.yc _ _ _ (k2 j u hu)) (kL k1 u (aR hu))⟩⟩
  |_=>simp[elems] at q
 |row S=>
  simp[elems] at q;split at q
  .rename_i e' V I z;obtain⟨rfl,rfl⟩:=q;have G:=hR.obs _ _ z;have hb:=jF G;obtain⟨D,l,B,_⟩:=G;have Vx:u=gp _:=R;rcases l.2 with⟨e1,e2⟩|⟨g,F,K,e1,_⟩
   .grind
   .exact⟨_,F,by simp_all,D,B, .inr ⟨_,rfl,l.cells (g:=g) (by rw[e1];rfl)⟩⟩
  simp_all
 |sub S s2 U O=>
  simp[elems] at q;split at q
  .rename_i e' V I z;cases hq:Nat.beq s2 V with
   |false=>simp_all
   |true=>
   rw[hq] at q;obtain⟨rfl,rfl⟩:=q;obtain⟨D,l,B,_⟩:=hR.obs _ _ z;obtain⟨A,n,c,A',c',h1,h2,h3,h4,h5,h6,h7⟩:=R;have hn:n=I.length:=by rcases l.2 with⟨e1,e2⟩|⟨g,F,K,e1,_⟩<;>simp_all
   have hl:((I.take O).drop U).length=O-U:=aI;refine⟨A',c',by simp_all,_,Db (kS B _) _,?_⟩;by_cases Q:U<O
   .obtain⟨g,eA,eA'⟩:=h7 Q;have hcl:=l.cells (by rw[h1,eA];rfl);simp_all[oU,add_lit]
   omega
  simp_all
 |_=>simp[elems] at q
def G5 (hR:Rel N w0 μ0 L μ loc st a w) {v:SV} {u:Value} {sz:Nat} {xs:List (List AV)} (h:elems st v=some (sz,xs)) (l:fW μ loc v u):
  ∃A c,u= .slice A xs.length c:=by
 grind[tP]
def Tc (hR:Rel N w0 μ0 L μ loc st a w) {v:SV} {u:Value} {n:Nat} (h:lenOf st v=some n) (z:fW μ loc v u):∃A c,u= .slice A n c:=by
 unfold lenOf at h;split at h
 .obtain⟨A,c,e⟩:=G5 hR rfl z;simp_all
 .split at h
  .rename_i e s xs l;injection h with h;subst h;exact G5 hR (sz:=s) (by simp[elems,l]) z
  .rename_i e s k H K xs R l;obtain⟨m,O,Q,G,_,q,_⟩:=hR.obs _ _ l;have e1:u=m:=(z).trans (by rw[G];rfl);rcases q.2 with⟨F,I⟩|⟨g,B,D,F,_⟩
   .simp_all
   simp_all
  grind
 .injection h with h;subst h;obtain⟨b,_,e⟩:=z;exact⟨_,_,e⟩
 grind
def oD {r:Nat} {q:Array MapEntry} {l:Nat} (h:w.heap[r]? =some (.map q l)):(getObj r).run P w= .ok (.map q l) w:=by simp[getObj,Sem.run,h]
def Ki (hR:Rel N w0 μ0 L μ loc st a w) {v:SV} {u:Value} {q z:List AV} (h:maps st v=some (q,z)) (D:fW μ loc v u):
  (u= .map none/\q=[]/\z=[])\/∃b eS l,u= .map (some b)/\w.heap[b]? =some (.map eS l)/\cS μ q (eS.toList.map (·.key))/\cS μ z (eS.toList.map (·.val)):=by
 unfold maps at h;split at h
 .rcases D with D|⟨b,kv,U,rfl,F,G,H⟩
  .simp_all
  .obtain⟨eS,l,I,rfl,rfl⟩:=see_map (hR.yc _ _ _ H);simp_all
 .rename_i id;cases B:st.ob id with
  |none=>simp_all
  |some o=>cases o with
   |box t R=>simp_all
   |row e s Q=>simp_all
   |rn e s k S s' xs Q=>simp_all
   |lp s=>simp_all
   |mp k e K O=>have V:=W9 (hR.obs _ _ B);obtain⟨b,eS,l,hl,_,I,_,F,G,_⟩:=hR.obs _ _ B;simp_all[fW]
 grind
def oR (P:Program) (μ:Mu) (loc:Nat->Value) (o:Oper) (l:SV) (a:Act) (w:World):Prop:=
 ∃v,(execOp a.eval o).run P w= .ok (.value v) w/\fW μ loc l v
def eT {o:Oper} {s:Sem Value} {l:SV} (z:execOp a.eval o=(do pure (.value (<-s)))) {v:Value} (B:s.run P w= .ok v w) (q:fW μ loc l v):oR P μ loc o l a w:=
 ⟨v,by simp_all,q⟩
section
variable (hR:Rel N w0 μ0 L μ loc st a w)
include hR
theorem Dy {o:Oper} {x:Operand} {q:SV} (l:o.op= .move x\/o.op= .assign x) (h:bP P o.type st x=some q):oR P μ loc o q a w:=by refine⟨_,?_,bp hR h⟩;rcases l with l|l<;> · unfold execOp;simp_all
theorem Vo {o:Oper} {c x y:Operand} {q:SV} (B:o.op= .pick c x y) (h:fB P o st=some q):oR P μ loc o q a w:=by
 unfold fB at h;rw[B] at h;simp at h;split at h
 .rename_i t z;have l:=bp hR z;simp[fW,rep] at l;cases t with
  |true=>refine⟨_,?_,bp hR h⟩;simp_all[execOp,asBool]
  |false=>refine⟨_,?_,bp hR h⟩;simp_all[execOp,asBool]
 grind
theorem Zs {o:Oper} {op:BinOp} {t I:TypeId} {x y:Operand} {B:SV} (q:o.op= .binOp op t x y I) (h:fB P o st=some B):oR P μ loc o B a w:=by
 unfold fB at h;rw[q] at h;simp at h;split at h
 .rename_i u v F G;cases l:bin P op t u v with
  |none=>simp_all
  |some r=>simp[l] at h;subst h;obtain⟨z,H,D⟩:=Y1 l (gO hR F) (gO hR G);exact eT (by unfold execOp;rw[q]) H D
 grind
theorem aby {o:Oper} {op:UnOp} {t:TypeId} {x:Operand} {B:SV} (q:o.op= .unOp op t x) (h:fB P o st=some B):oR P μ loc o B a w:=by
 unfold fB at h;rw[q] at h;simp at h;split at h
 .rename_i u F;cases l:un op u with
  |none=>simp_all
  |some r=>simp[l] at h;subst h;obtain⟨z,G,D⟩:=aei l (gO hR F);exact eT (by unfold execOp;rw[q]) G D
 grind
omit hR in
theorem RS {xs:List (List AV)} {G:List UInt8} {F:List Value} (h:bytesOf xs=some G) (z:dc μ 1 xs F):∃D:List Int,F=D.map (Value.int .u8)/\G=D.map λn=>UInt8.ofNat n.toNat:=by induction xs generalizing G F with
 |nil=>simp only[bytesOf,bq] at h;subst h;have:F=[]:=z;subst this;exact⟨[],rfl,rfl⟩
 |cons x xs U=>
  obtain⟨u1,ws,rfl,R,V,S⟩:=z;unfold bytesOf at h;split at h
  .rename_i H;cases H
  .rename_i n l H;injection H with e1 Q;subst e1;subst Q;cases I:bytesOf xs with
   |none=>simp[I] at h
   |some O=>simp[I] at h;subst h;obtain⟨D,rfl,rfl⟩:=U I S;have q:=R.1;rw[cS] at q;obtain⟨y,ys,rfl,K,B⟩:=q;rw[cS] at B;subst B;rw[rep] at K;subst K;exact⟨n::D,by simp,ai⟩
  .cases h
omit hR in
theorem foldl_push (l:List Int):l.foldl (λ(r:ByteArray) n=>r.push (UInt8.ofNat n.toNat)) ByteArray.empty=⟨(l.map λn=>UInt8.ofNat n.toNat).toArray⟩:=by
 have key:∀(l:List Int) (s:ByteArray),l.foldl (λ(r:ByteArray) n=>r.push (UInt8.ofNat n.toNat)) s=⟨s.data++(l.map λn=>UInt8.ofNat n.toNat).toArray⟩:=by intro l;induction l with
  |nil=>intro s;simp
  |cons n l q=>intro s;simp only[gx,q];simp[ByteArray.push]
 rw[key];simp
theorem Mg {o:Oper} {t S:TypeId} {x:Operand} {sv:SV} (G:o.op= .convert t S x) (h:fB P o st=some sv):oR P μ loc o sv a w:=by
 unfold fB at h;rw[G] at h;simp only[] at h;split at h
 .rename_i e hu hd;split at h
  .rename_i xs he hsz F;cases hb:bytesOf xs with
   |none=>simp_all
   |some bs=>
    simp[hb] at h;subst h;obtain⟨sx,K,H⟩:=dA.1 F;obtain⟨A,c,R,U,B,D⟩:=tP hR H (bp hR K);obtain⟨ns,z,l⟩:=RS hb B;have O:=dg B;refine eT (s:=convert t S (a.eval x)) (by unfold execOp;rw[G]) (v:= .string ⟨bs.toArray⟩) ?_ (by rfl);have e1:∀v:Value,(∃A n c,v= .slice A n c)->(convert t S v).run P w=(Conv.bytesToString v).run P w:=by rintro v ⟨A,n,c,rfl⟩;simp_all[convert,bW]
    rw[R,e1 _ ⟨_,_,_,rfl⟩];rcases D with h0|⟨V,rfl,hc⟩
    .have:U=[]:=lV af
     subst this;have I:ns=[]:=by cases ns with
      |nil=>rfl
      |cons=>simp at z
     subst I;have l:bs=[]:=l;subst l;rw[h0];cases A with
     |none=>rfl
     |some V=>rfl
    .have hl:=A8 (P:=P) w V U hc;have q:U.length=xs.length:=by rw[O];simp
     rw[q,z] at hl;rw[run_bytesToString w _ _ c _ hl,l,foldl_push]
  grind
 .split at h
  .rename_i k' n F;injection h with h;subst h;have Q:=gO hR F;rw[rep] at Q;refine eT (by unfold execOp;rw[G]) ?_ (by rfl);simp_all[convert,bW,Conv.intToInt]
  grind
 .split at h
  .rename_i s F;injection h with h;subst h;have Q:=gO hR F;rw[rep] at Q;refine eT (by unfold execOp;rw[G]) ?_ (by rfl);simp_all[convert,bW]
  grind
 grind
theorem AG {b:Bool} {B r:AV} {l:List Operand} {u:Value} (h:mT P st b B l=some r) (I:rep μ B u):
  ∃v,((l.map a.eval).foldlM (if b then Builtin.max2 else Builtin.min2) u).run P w= .ok v w/\rep μ r v:=by
 induction l generalizing B u with
 |nil=>simp[mT] at h;simp_all
 |cons x l R=>
  simp[mT] at h;split at h
  .rename_i v O;split at h
   .rename_i U q;have K:=gO hR O;unfold ady at q;split at q
    .grind[rep,Builtin.max2,Builtin.min2]
    .rename_i D F;injection q with q;subst q;rw[rep] at I K;subst I;obtain⟨z,Q,G⟩:=R h (u:= .string ⟨(bif b then(bif !(Op.bytesLess D F) then D else F) else(bif Op.bytesLess D F||D==F then D else F)).toArray⟩) (by simp[rep]);refine⟨z,?_,G⟩;rw[<-Q];simp[bS,K];cases b with
     |true=>cases H:Op.bytesLess _ _<;>simp[Builtin.max2,Op.stringOp,asBool,H]
     |false=>cases H:Op.bytesLess _ _<;>cases S:D==F<;>simp_all[Builtin.min2,Op.stringOp,asBool]
    simp_all
   grind
  grind
theorem Hj {o:Oper} {c:Call} {V:SV} (S:o.op= .call c) (h:AH P c st=some V):oR P μ loc o V a w:=by
 obtain⟨O,⟨args⟩,⟨F⟩⟩:=c;unfold AH at h;simp only[] at h;split at h
 .rename_i x;split at h
  .rename_i t;split at h
   .rename_i s G B;injection h with h;subst h;have q:=bp hR B;simp only[fW,rep] at q;refine⟨.int .i64 s.length,?_,by rfl⟩;have R:(⟨s.toArray⟩:ByteArray).size=s.length:=rfl;unfold execOp;rw[S];simp[resolve,invoke,builtin,Builtin.len_,bW G,q,goInt,R]
   .rename_i e G B;injection h with h;subst h;have q:=bp hR B;simp only[fW,rep] at q;refine⟨.int .i64 0,?_,by rfl⟩;simp_all[execOp,resolve,invoke,builtin,Builtin.len_,bW,goInt]
   .rename_i e id sz lo hi G B;injection h with h;subst h;obtain⟨A,n,c,A',c',_,hlo,hhi,_,q,_⟩:=bp hR B;refine⟨.int .i64 ((hi-lo:Nat):Int),?_,by rfl⟩;simp_all[execOp,resolve,invoke,builtin,Builtin.len_,bW,goInt]
   .rename_i e v _ _ G B;cases H:lenOf st v with
    |none=>simp_all
    |some y=>simp[H] at h;subst h;obtain⟨A,c,q⟩:=Tc hR H (bp hR B);refine⟨.int .i64 y,?_,by rfl⟩;simp_all[execOp,resolve,invoke,builtin,Builtin.len_,bW,goInt]
   .rename_i kt et v G B;cases H:maps st v with
    |none=>simp_all
    |some y=>
     obtain⟨U,vs⟩:=y;simp[H] at h;subst h;refine⟨.int .i64 U.length,?_,by rfl⟩;unfold execOp;rw[S];rcases Ki hR H (bp hR B) with⟨q,rfl,rfl⟩|⟨b,eS,Q,q,hh,h1,h2⟩
     .simp_all[resolve,invoke,builtin,Builtin.len_,bW,goInt]
     .have I:eS.size=U.length:=by simpa using tI h1
      simp[resolve,invoke,builtin,Builtin.len_,bW G,q,goInt,oD hh,I]
   grind
  grind
 .rename_i x l;split at h
  .rename_i v q;cases K:mT P st true v l with
   |none=>simp_all
   |some r=>simp[K] at h;subst h;obtain⟨z,hz,D⟩:=AG hR K (gO hR q);refine⟨z,?_,D⟩;simp_all[execOp,ia,resolve,invoke,builtin,Builtin.max_]
  grind
 .rename_i x l;split at h
  .rename_i v q;cases K:mT P st false v l with
   |none=>simp_all
   |some r=>simp[K] at h;subst h;obtain⟨z,hz,D⟩:=AG hR K (gO hR q);refine⟨z,?_,D⟩;simp_all[execOp,resolve,invoke,builtin,Builtin.min_]
  grind
 grind
omit hR in
theorem G8 {t:TypeId} {f:Nat} {fd:Field} (h:w5 P t f=some fd):∃l,P.underlying t=some (.struct l)/\l[f]? =some fd:=by
 unfold w5 at h;split at h
 .rename_i l q;exact⟨l,q,h⟩
 .cases h
theorem H8 {o:Oper} {t:TypeId} {x:Operand} {f:Nat} {O:SV} (B:o.op= .fieldAddr t x f) (h:fB P o st=some O):oR P μ loc o O a w:=by
 unfold fB at h;rw[B] at h;simp at h;split at h
 .rename_i fd R;obtain⟨fs,hu,S⟩:=G8 R;split at h
  .cases h
  .have run:∀D:Addr,(Instr.fieldAt t (.pointer (some D)) f).run P w= .ok (.pointer (some (D.add fd.offset))) w:=λD=>by
    simp_all[Instr.fieldAt,bW,Instr.sureAddr,fieldPlace,kU]
   split at h
   .rename_i id z q;injection h with h;subst h;obtain⟨b,I,l⟩:=bp hR q;refine eT (by unfold execOp;rw[B]) (by rw[l];exact run _) ?_;exact⟨b,I,by rw[add_lit]⟩
   .rename_i Q q;injection h with h;subst h;obtain⟨b,z,vs,l,F,V⟩:=bp hR q;refine eT (by unfold execOp;rw[B]) (by rw[l];exact run _) ?_;refine⟨b,_,_,by rw[add_lit],F.drop _,λj v U=> ?_⟩;grind
   .rename_i Q q;injection h with h;subst h;have K:=bp hR q;obtain⟨b,z,vs,l,G,H,V⟩:=K;have F:lF _ _ _:=⟨G,H⟩
    refine eT (by unfold execOp;rw[B]) (by rw[l];exact run _) ?_;refine⟨b,_,_,by rw[add_lit],F.drop _,λj v U=> ?_⟩;grind
   .rename_i id sz i z q;injection h with h;subst h;obtain⟨g,n',c,I,l⟩:=bp hR q;refine eT (by unfold execOp;rw[B]) (by rw[l];exact run _) ?_;exact⟨g,n',c,I,by rw[add_lit,nj]⟩
   grind
  grind
 grind
theorem JV {o:Oper} {x:Operand} {z:SV} (B:o.op= .nilCheck x) (h:fB P o st=some z):oR P μ loc o z a w:=by
 unfold fB at h;simp[B] at h;have G:bP P 0 st x=some z/\∃p,a.eval x= .pointer (some p):=by
  split at h
  .rename_i id q l;have:=bp hR l;grind[fW]
  .rename_i D l;have:=bp hR l;grind[fW]
  .rename_i D l;have:=bp hR l;grind[fW,rep]
  .rename_i id H i q l;have:=bp hR l;grind[fW]
  .cases h
 obtain⟨l,p,F⟩:=G;refine eT (s:=pure _) ?_ rfl (bp hR l);simp[execOp,B,F]
theorem SE {o:Oper} {t:TypeId} {x:Operand} {f:Nat} {D:SV} (z:o.op= .field t x f) (h:fB P o st=some D):oR P μ loc o D a w:=by
 unfold fB at h;rw[z] at h;simp at h;split at h
 .rename_i fd F I O;obtain⟨Q,S,K⟩:=G8 I;cases q:iU P fd.type (F.drop fd.offset) with
  |none=>simp_all
  |some y=>simp[q] at h;subst h;have B:=gO hR O;obtain⟨U,B,G,H⟩:=B;obtain⟨v,R,l⟩:=K0 (w:=w) _ q ⟨G,H⟩;refine eT (by unfold execOp;rw[z]) ?_ l;simp_all[Instr.field,bW,asAgg]
 grind
theorem H9 {o:Oper} {t:TypeId} {x ix:Operand} {sv:SV} (ho:o.op= .indexAddr t x ix) (h:fB P o st=some sv):oR P μ loc o sv a w:=by
 unfold fB at h;rw[ho] at h;simp only[] at h;split at h
 .rename_i n e hu;unfold Dz at h;split at h
  .rename_i s id K k i B R Q;split at h
   .rename_i O;obtain⟨S,F,hpos⟩:=O;injection h with h;subst h;have l:=bp hR Q;simp only[fW,rep] at l;obtain⟨b,hl,D⟩:=bp hR R;refine eT (s:=Instr.indexAt t (a.eval x) (a.eval ix)) (by unfold execOp;rw[ho]) (v:= .pointer (some ((⟨b,K,none⟩:Addr).add (i.toNat *s)))) ?_ ?_
    .rw[D,l];have:=kU B w;simp[Instr.indexAt,asIntOf,bW hu,Instr.sureAddr,S,F,this]
    .exact⟨b,hl,by rw[add_lit]⟩
   grind
  .rename_i s id sz j K k i B R Q;split at h
   .rename_i O;obtain⟨S,F,hpos⟩:=O;injection h with h;subst h;have l:=bp hR Q;simp only[fW,rep] at l;obtain⟨g,m,c,hl,D⟩:=bp hR R;refine eT (s:=Instr.indexAt t (a.eval x) (a.eval ix)) (by unfold execOp;rw[ho]) (v:= .pointer (some ((⟨g,j *sz+K,none⟩:Addr).add (i.toNat *s)))) ?_ ?_
    .rw[D,l];have:=kU B w;simp[Instr.indexAt,asIntOf,bW hu,Instr.sureAddr,S,F,this]
    .exact⟨g,m,c,hl,by rw[add_lit,nj]⟩
   grind
  .rename_i s cs k i B R Q;split at h
   .rename_i O;obtain⟨S,F,hpos⟩:=O;injection h with h;subst h;have l:=bp hR Q;simp only[fW,rep] at l;obtain⟨b,K,vs,D,hcs,hm⟩:=bp hR R;refine eT (s:=Instr.indexAt t (a.eval x) (a.eval ix)) (by unfold execOp;rw[ho]) (v:= .pointer (some ((⟨b,K,none⟩:Addr).add (i.toNat *s)))) ?_ ?_
    .rw[D,l];have:=kU B w;simp[Instr.indexAt,asIntOf,bW hu,Instr.sureAddr,S,F,this]
    .exact⟨b,_,_,by rw[add_lit],hcs.drop _,λq u hq=>by grind⟩
   grind
  grind
 unfold w8 at h;split at h
 .rename_i e s sz xs k i hs R Q;obtain⟨hu,inf,G,B⟩:=gb hs;split at h
  .rename_i O;obtain⟨rfl,S⟩:=O;cases hg:xs[i.toNat]? with
   |none=>simp_all
   |some y=>
    simp[hg] at h;subst h;have F:i.toNat<xs.length:=(bR.1 hg).1;have D:=bp hR R;have l:=bp hR Q;simp only[fW,rep] at D l;obtain⟨A,c,D,hlc,hcm,V⟩:=D;rcases V with hz|⟨b,K,rfl,V⟩
    .omega
    .obtain⟨vs,hc1,Vr,hc3⟩:=WB V hg;refine eT (s:=Instr.indexAt t (a.eval x) (a.eval ix)) (by unfold execOp;rw[ho]) (v:= .pointer (some ((⟨b,K,none⟩:Addr).add (i.toNat *s)))) ?_ ?_
     .rw[D,l];have H:i<(xs.length:Int):=by omega
      simp[Instr.indexAt,asIntOf,bW hu,S,H,sizeOf,typeInfo,G,B]
     .refine⟨b,K+i.toNat *s,vs,by rw[add_lit],hc1,hc3⟩
  grind
 .rename_i e s id k i hs R Q;obtain⟨hu,inf,G,B⟩:=gb hs;split at h
  .rename_i e' sz xs sY;split at h
   .rename_i O;obtain⟨rfl,S,F⟩:=O;injection h with h;subst h;have D:=bp hR R;have l:=bp hR Q;simp only[fW,rep] at D l;rw[jF (hR.obs id _ sY)] at D;obtain⟨vs,U,hrc,_⟩:=hR.obs id _ sY;obtain⟨g,I,z,_⟩:∃g I,loc id= .slice (some ⟨g,0,none⟩) xs.length I/\True:=by
     rcases U.2 with⟨_,e2⟩|⟨g,I,cur,e1,_⟩
     .omega
     simp_all
    refine eT (s:=Instr.indexAt t (a.eval x) (a.eval ix)) (by unfold execOp;rw[ho]) (v:= .pointer (some ((⟨g,0,none⟩:Addr).add (i.toNat *s)))) ?_ ?_
    .rw[D,l,z];have H:i<(xs.length:Int):=by omega
     simp[Instr.indexAt,asIntOf,bW hu,S,H,sizeOf,typeInfo,G,B]
    .exact⟨g,_,I,by rw[z];rfl,by rw[add_lit];simp⟩
   grind
  .rename_i e' sz k e2 s2 xs ys sY;split at h
   .rename_i O;obtain⟨rfl,S,F⟩:=O;injection h with h;subst h;have D:=bp hR R;have l:=bp hR Q;simp only[fW,rep] at D l;obtain⟨m,us,vs,hl,_,U,_⟩:=hR.obs id _ sY;rw[hl] at D;replace D:a.eval x=m:=D;obtain⟨g,I,z,_⟩:∃g I,m= .slice (some ⟨g,0,none⟩) xs.length I/\True:=by
     rcases U.2 with⟨_,e2⟩|⟨g,I,cur,e1,_⟩
     .omega
     simp_all
    refine eT (s:=Instr.indexAt t (a.eval x) (a.eval ix)) (by unfold execOp;rw[ho]) (v:= .pointer (some ((⟨g,0,none⟩:Addr).add (i.toNat *s)))) ?_ ?_
    .rw[D,l,z];have H:i<(xs.length:Int):=by omega
     simp[Instr.indexAt,asIntOf,bW hu,S,H,sizeOf,typeInfo,G,B]
    .exact⟨g,_,I,by rw[hl];exact z,by rw[add_lit];simp⟩
   grind
  grind
 .rename_i e s id sz lo hi' k i hs R Q;obtain⟨hu,inf,G,B⟩:=gb hs;split at h
  .rename_i O;obtain⟨rfl,S,F⟩:=O;injection h with h;subst h;have l:=bp hR Q;simp[fW,rep] at l;obtain⟨A,n,c,A',c',z,hlo,hhi,hc',D,_,hg⟩:=bp hR R;obtain⟨g,rfl,rfl⟩:=hg af;refine eT (by unfold execOp;rw[ho]) (v:= .pointer (some ((⟨g,lo *s,none⟩:Addr).add (i.toNat *s)))) ?_ ?_
   .simp_all[Instr.indexAt,asIntOf,bW,sizeOf,typeInfo]
   .exact⟨g,_,c,by rw[z];rfl,by grind[add_lit]⟩
  grind
 .rename_i e s id n k i hs R Q;obtain⟨hu,inf,G,B⟩:=gb hs;split at h
  .rename_i O;obtain⟨rfl,S,F⟩:=O;injection h with h;subst h;have l:=bp hR Q;simp[fW,rep] at l;obtain⟨b,z,D⟩:=bp hR R;refine eT (by unfold execOp;rw[ho]) (v:= .pointer (some ((⟨b,0,none⟩:Addr).add (i.toNat *1)))) ?_ ?_
   .have H:i<(n:Int):=by omega
    simp_all[Instr.indexAt,asIntOf,bW,sizeOf,typeInfo]
   .exact⟨b,z,by simp[add_lit]⟩
  grind
 grind
theorem SF {o:Oper} {t:TypeId} {x K:Operand} {D:SV} (B:o.op= .index t x K) (h:fB P o st=some D):oR P μ loc o D a w:=by
 unfold fB at h;rw[B] at h;simp at h;split at h
 .rename_i s k i Q I G;split at h
  .cases z:s[i.toNat]? with
   |none=>simp_all
   |some b=>
    simp[z] at h;subst h;have H:=bp hR I;have l:=bp hR G;simp[fW,rep] at H l;refine eT (by unfold execOp;rw[B]) ?_ (by rfl);have q:=(bR.1 z)
    obtain⟨O,F⟩:=q
    have:(⟨s.toArray⟩:ByteArray)[i.toNat]? =some b:=by rw[getElem?_pos _ _ _];show some s.toArray[i.toNat]=some b;simp[F]
    simp_all[Instr.index,asIntOf,bW]
  grind
 grind
theorem Vn {o:Oper} {t:TypeId} {x:Operand} {sv:SV} (ho:o.op= .load t x) (h:fB P o st=some sv):oR P μ loc o sv a w:=by
 have start:∀(ad:Addr),a.eval x= .pointer (some ad)->∀v,(loadVar t ad).run P w= .ok v w->∀sv,fW μ loc sv v->oR P μ loc o sv a w:=λad H v O sv hs=>eT (s:=Instr.loadAt t (a.eval x)) (by unfold execOp;rw[ho]) (v:=v) (by simp_all[Instr.loadAt,Instr.sureAddr]) hs
 unfold fB at h;rw[ho] at h;simp only[] at h;split at h
 .rename_i cs I;cases K:iU P t cs with
  |none=>simp_all
  |some y=>simp[K] at h;subst h;obtain⟨b,l,D,H,R,hm⟩:=bp hR I;obtain⟨v,O,z⟩:=sJ (w:=w) (ad:=⟨b,l,none⟩) K R (λj u B=>by rw[add_lit];exact yK (hR.yc _ _ _ (hm j u B)) (R.2 u (aR B)));exact start _ H v O _ z
 .rename_i cs I;cases K:iU P t cs with
  |none=>simp_all
  |some y=>
   simp[K] at h;subst h;have hx':=bp hR I;simp only[fW,rep] at hx';obtain⟨b,l,D,H,S,Vr,hm⟩:=hx';have R:lF μ cs D:=⟨S,Vr⟩
   obtain⟨v,O,z⟩:=sJ (w:=w) (ad:=⟨b,l,none⟩) K R (λj u B=>by rw[add_lit];exact yK (hR.yc _ _ _ (hm j u B)) (R.2 u (aR B)));exact start _ H v O _ z
 .rename_i id sz i l I;split at h
  .rename_i e sz' xs F;split at h
   .rename_i hsz;subst hsz;cases hg:xs[i]? with
    |none=>simp_all
    |some c=>cases K:iU P t (c.drop l) with
     |none=>simp_all
     |some y=>
      simp[hg,K] at h;subst h;obtain⟨g,n,cp,V,H⟩:=bp hR I;rw[jF (hR.obs id _ F)] at V;obtain⟨D,G,hrc,_⟩:=hR.obs id _ F;obtain⟨us,S,Vr,hc3⟩:=PS hrc hg;have q:=G.cells (g:=g) (by rw[V];rfl)
      obtain⟨v,O,z⟩:=sJ (w:=w) (ad:=⟨g,i *sz+l,none⟩) K (S.drop l) (λj u B=>by
       rw[wK] at B;have:=q _ _ (hc3 _ _ B);rw[add_lit] at this⊢
       rwa[show 0+(i *sz+(l+j))=i *sz+l+j from by omega] at this)
      exact start _ H v O _ z
   grind
  .rename_i e sz' k e' s' xs ys F;split at h
   .rename_i R;obtain⟨rfl,rfl,hi,hagg⟩:=R;injection h with h;subst h;obtain⟨g,n,cp,V,H⟩:=bp hR I;obtain⟨m,us,D,Vt,hm,G,hrc,hk,h2,h3,h4,h5,h6,h7⟩:=hR.obs id _ F;have Vu:m= .slice (some ⟨g,0,none⟩) n cp:=by rw[Vt] at V;exact V
    have q:=G.cells (g:=g) (by rw[Vu];rfl);have hlt:i *sz+l<D.length:=by rw[dg hrc];have:=jS sz (show i+1<=xs.length from hi);rw[jR,Nat.one_mul] at this;have:=hk.1;omega
    obtain⟨u,B⟩:∃u,D[i *sz+l]? =some u:=⟨D[i *sz+l],aM hlt⟩
    have hcu:=q _ _ B;rw[add_lit,eO] at hcu;refine start _ H u (by simp_all[loadVar,rK]) _ ?_;refine⟨m,us,Vt,⟨_,_,_,Vu⟩,λx I=> ?_⟩;cases hy:ys[i]? with
    |none=>simp_all
    |some y=>cases y with
     |none=>grind
     |some zs=>grind
   grind
  grind
 .rename_i id l I;obtain⟨b,V,H⟩:=bp hR I;split at h
  .rename_i bt cells F;obtain⟨b',D,hl',hnF,U,IA,hss,h1⟩:=hR.obs id _ F;rw[V] at hl';simp only[Value.pointer.injEq,bq,Addr.mk.injEq,eP] at hl';subst hl';have hcell:∀j,w.cell? ⟨b,j,none⟩=D[j]? :=λj=>by rw[cell_of_row w b j D.toArray bt _ U];simp
   split at h
   .split at h
    .obtain⟨v,Vw,O⟩:=Nv hss h;simp_all[loadVar,rK]
    grind
   .split at h
    .rename_i n hsz;split at h
     .have Q:=DP (DO hss l) n;have hlen:=qm hss;have Vt:((D.drop l).take n).length=n:=aI;have O:=A8 (P:=P) w ⟨b,l,none⟩ ((D.drop l).take n) (λj v hj=>by simp_all[add_lit,oU]);cases hp:mM ((cells.drop l).take n) with
      |none=>
       simp[hp,cH] at h;obtain⟨ks,hk,rfl⟩:=h;refine start _ H (.agg ((D.drop l).take n).toArray) ?_ _ ?_
       .simp_all[loadVar,rK,kU]
       .exact⟨_,rfl,RP hk Q,λu B=>h1 u (je (s9 B))⟩
      |some cs=>
       simp[hp] at h;subst h;refine start _ H (.agg ((D.drop l).take n).toArray) ?_ _ ?_
       .simp_all[loadVar,rK,kU]
       .exact⟨_,rfl,G0 hp Q,λu B=>h1 u (je (s9 B))⟩
     grind
    grind
   grind
  grind
 grind
theorem jy {q:Option Operand} {B:Option SV} {d y r:Nat} (l:nZ P st q=some B) (h:ij B d y=some r) (code:BoundsCode):
  (q=none/\r=d)\/∃x,q=some x/\(Instr.sliceBound (a.eval x) y code).run P w= .ok r w/\r<=y:=by
 cases q with
 |none=>simp[nZ,bq] at l;subst l;simp[ij] at h;simp_all
 |some x=>simp[nZ] at l;cases z:bP P 0 st x with
  |none=>simp_all
  |some F=>simp[z] at l;subst l;have D:=bp hR z;cases F with
   |pv v=>cases v with
    |int k i=>
     simp only[ij] at h;split at h
     .injection h with h;subst h;simp[fW,rep] at D;simp_all[Instr.sliceBound,asIntOf]
     grind
    |_=>simp[ij] at h
   |_=>simp[ij] at h
omit hR in
theorem Ey (s:List UInt8) (l h:Nat) (z:l<=h) (q:h<=s.length):(⟨s.toArray⟩:ByteArray).extract l h=⟨((s.take h).drop l).toArray⟩:=by apply ByteArray.ext;simp[ByteArray.data_extract,List.extract_eq_take_drop,GR]
theorem PV {t e:TypeId} {s:Nat} {x:Operand} {V G:Option Operand} {lv S:Option SV} {A:Option Addr} {m c B l:Nat} (hu:P.underlying t=some (.slice e)) (I:lB P e=some s) (hxv:a.eval x= .slice A m c) (hlc:m<=c)
  (H:nZ P st V=some lv) (z:nZ P st G=some S) (q:ij S m m=some B) (D:ij lv 0 B=some l):
  (Instr.sliceAt t (a.eval x) (V.map a.eval) (G.map a.eval) none).run P w= .ok (.slice (if c=l then A else A.map (·.add (l *s))) (B-l) (c-l)) w:=by
 obtain⟨inf,R,hs⟩:∃i,P.info? e=some i/\i.size=s:=by unfold lB at I;simp_all
 have Q:B<=m:=by rcases jy hR z q .sliceAcap with⟨_,e⟩|⟨_,_,_,e⟩<;>omega
 have hlh:l<=B:=by rcases jy hR H D .sliceB with⟨_,e⟩|⟨_,_,_,e⟩<;>omega
 have F:G=none/\B=m\/∃y,G=some y/\(Instr.sliceBound (a.eval y) c .sliceAcap).run P w= .ok B w:=by cases G with
  |none=>
   rcases jy hR z q .sliceAcap with⟨_,e⟩|⟨_,e,_⟩
   .simp_all
   grind
  |some y=>refine .inr ⟨y,rfl,?_⟩;simp[nZ] at z;cases U:bP P 0 st y with
   |none=>simp_all
   |some O=>simp[U] at z;subst z;have K:=bp hR U;cases O with
    |pv v=>cases v with
     |int k i=>
      simp only[ij] at q;split at q
      .simp[fW,rep] at K
       have:i<=(c):=af
       simp_all[Instr.sliceBound,asIntOf]
      simp_all
     |_=>simp[ij] at q
    |_=>simp[ij] at q
 rcases F with⟨rfl,rfl⟩|⟨xh,rfl,rh⟩<;>
 rcases jy hR H D .sliceB with⟨rfl,rfl⟩|⟨xl,rfl,rl,_⟩<;>
 simp[Instr.sliceAt,Instr.slice,bW _,Instr.sliceBounds,sizeOf,typeInfo, *]
theorem ML {K I:Option Operand} {H G:Option SV} {m q l:Nat} (F:nZ P st K=some H) (D:nZ P st I=some G) (z:ij G m m=some q) (B:ij H 0 q=some l):q<=m/\l<=q:=by
 constructor
 .rcases jy hR D z .sliceAcap with⟨_,e⟩|⟨_,_,_,e⟩<;>omega
 .rcases jy hR F B .sliceB with⟨_,e⟩|⟨_,_,_,e⟩<;>omega
theorem SG {o:Oper} {t:TypeId} {x:Operand} {lo hi:Option Operand} {sv:SV} (ho:o.op= .slice t x lo hi none) (h:fB P o st=some sv):oR P μ loc o sv a w:=by
 unfold fB at h;rw[ho] at h;simp only[] at h;split at h
 .rename_i s lv hv R V F D;split at h
  .rename_i H B;cases z:ij lv 0 H with
   |none=>simp_all
   |some l=>
    simp[z] at h;subst h;have G:=bp hR V;simp only[fW,rep] at G;have I:H<=s.length:=by rcases jy hR D B .sliceAlen with⟨_,e⟩|⟨_,_,_,e⟩<;>omega
    have Q:l<=H:=by rcases jy hR F z .sliceB with⟨_,e⟩|⟨_,_,_,e⟩<;>omega
    refine eT (s:=Instr.sliceAt t (a.eval x) (lo.map a.eval) (hi.map a.eval) none) (by unfold execOp;simp_all) (v:= .string ⟨((s.take H).drop l).toArray⟩) ?_ (by rfl);rw[G];have U:(⟨s.toArray⟩:ByteArray).size=s.length:=rfl;have hex:=Ey s l H Q I;rcases jy hR D B .sliceAlen with⟨rfl,rfl⟩|⟨xh,rfl,rh,_⟩<;>
    rcases jy hR F z .sliceB with⟨rfl,rfl⟩|⟨xl,rfl,rl,_⟩<;>
    simp_all[Instr.sliceAt,Instr.slice,bW R,Instr.sliceBounds]
  grind
 .rename_i e sz xs lv hv R V F D;split at h
  .rename_i e' s H hs B;obtain⟨q,inf,O,U⟩:=gb hs;rw[R] at q;injection q with q;injection q with q;subst q;split at h
   .rename_i e;subst e;cases z:ij lv 0 H with
    |none=>simp_all
    |some l=>
     simp[z] at h;subst h;have G:=bp hR V;simp only[fW,rep] at G;obtain⟨A,c,G,hlc,hcm,S⟩:=G;have I:H<=xs.length:=by rcases jy hR D B .sliceAcap with⟨_,e⟩|⟨_,_,_,e⟩<;>omega
     have Q:l<=H:=by rcases jy hR F z .sliceB with⟨_,e⟩|⟨_,_,_,e⟩<;>omega
     refine eT (s:=Instr.sliceAt t (a.eval x) (lo.map a.eval) (hi.map a.eval) none) (by unfold execOp;simp_all)
      (v:= .slice (if c=l then A else A.map (·.add (l *s))) (H-l) (c-l)) ?_ ?_
     .grind[PV,lB]
     .show rep μ (.dG s ((xs.take H).drop l)) _;rw[rep];have hlen:((xs.take H).drop l).length=H-l:=aI;refine⟨_,_,by rw[hlen],by omega,by omega,?_⟩;rcases S with hz|⟨b,off,rfl,S⟩
      .omega
      .by_cases hc:c=l
       .omega
       .refine .inr ⟨b,off+l *s,by rw[az hc];simp[add_lit],?_⟩;simp_all[TX,TY]
   grind
  grind
 .rename_i e id lv hv R V F D;split at h
  .rename_i e' s e2 sz xs hs sY;obtain⟨q,inf,O,U⟩:=gb hs;rw[R] at q;injection q with q;injection q with q;subst q;split at h
   .rename_i H B;split at h
    .rename_i e;subst e;cases z:ij lv 0 H with
     |none=>simp_all
     |some l=>
      simp[z] at h;subst h;have G:a.eval x=loc id:=(bp hR V:a.eval x=gp (loc id)).trans (jF (hR.obs id _ sY));obtain⟨I,Q⟩:=ML hR F D B z;obtain⟨vs,hown,hrc,_⟩:=hR.obs id _ sY;obtain⟨A,c,K,hlc,hA⟩:∃A c,loc id= .slice A xs.length c/\xs.length<=c/\(0<xs.length->∃g,A=some ⟨g,0,none⟩):=by
       rcases hown.2 with⟨e1,e2⟩|⟨g,cap,cur,e1,h2,h3,h4⟩
       .simp_all
       grind
      refine eT (s:=Instr.sliceAt t (a.eval x) (lo.map a.eval) (hi.map a.eval) none) (by unfold execOp;simp_all)
       (v:= .slice (if c=l then A else A.map (·.add (l *s))) (H-l) (c-l)) (PV hR R (by rw[lB,O];grind) (G.trans K) hlc F D B z) ?_
      refine⟨A,_,c,_,_,K,Q,I,by omega,rfl,λe=> ?_,λhlt=> ?_⟩
      .simp_all[add_zero']
      .obtain⟨g,rfl⟩:=hA af;refine⟨g,rfl,?_⟩;rw[az af];simp[add_lit]
    grind
   grind
  grind
 .rename_i e id sz a' b' lv hv R V F D;split at h
  .rename_i e' s H hs B;obtain⟨q,inf,O,U⟩:=gb hs;rw[R] at q;injection q with q;injection q with q;subst q;split at h
   .rename_i e;subst e;cases z:ij lv 0 H with
    |none=>simp_all
    |some l=>
     simp[z] at h;subst h;obtain⟨A,n,c,A',c',K,XA,Vt,hc',G,hz,hg⟩:=bp hR V;obtain⟨I,Q⟩:=ML hR F D B z;refine eT (by unfold execOp;simp_all)
      (v:= .slice (if c'=l then A' else A'.map (·.add (l *s))) _ _) (PV hR R (by rw[lB];grind) G hc' F D B z) ?_
     refine⟨A,_,c,(if c'=l then A' else A'.map (·.add (l *s))),c'-l,K,by omega,by omega,by omega,by grind,λe=> ?_,λhlt=> ?_⟩
     .simp_all[add_zero']
     .obtain⟨g,rfl,rfl⟩:=hg af;rw[az af];simp[add_lit,jR]
   grind
  grind
 grind
theorem Mh {o:Oper} {x:Operand} {i:Nat} {I:SV} (q:o.op= .extract x i) (h:fB P o st=some I):oR P μ loc o I a w:=by
 unfold fB at h;rw[q] at h;simp at h;split at h
 .rename_i O F;cases H:O[i]? with
  |none=>simp_all
  |some y=>simp[H] at h;subst h;have l:=bp hR F;obtain⟨U,l,B⟩:=l;obtain⟨u,Q,D⟩:=tB B H;refine eT (by unfold execOp;rw[q]) ?_ D;simp_all[Instr.extract]
 .rename_i v b F;obtain⟨u,K,l,D,z⟩:=bp hR F;split at h
  .injection h with h;subst h;refine eT (by unfold execOp;rw[q]) ?_ D;rw[l];rfl
  .injection h with h;subst h;refine eT (by unfold execOp;rw[q]) ?_ z;rw[l];rfl
  grind
 .rename_i V v b F;obtain⟨R,K,S,l,D,z,G⟩:=bp hR F;split at h
  .injection h with h;subst h;refine eT (by unfold execOp;rw[q]) ?_ D;rw[l];rfl
  .injection h with h;subst h;refine eT (by unfold execOp;rw[q]) ?_ z;rw[l];rfl
  .injection h with h;subst h;refine eT (by unfold execOp;rw[q]) ?_ G;rw[l];rfl
  grind
 grind
omit hR in
theorem Ck {F:List TypeId} {l:List Value} {z:List AV} (h:oh P F l=some z):lF μ z l:=by induction F generalizing l z with
 |nil=>cases l with
  |nil=>simp[oh] at h;subst h;exact⟨dY,ai⟩
  |cons v l=>simp[oh] at h
 |cons t F H=>cases l with
  |nil=>simp[oh] at h
  |cons v l=>
   simp only[oh] at h;split at h
   .rename_i x xs q D;injection h with h;subst h;have G:=xo (P:=P) (μ:=μ) q;have k:=H D;refine⟨cT G k.1,λu B=> ?_⟩;rcases aS.1 B with rfl|B
    .unfold ofConst at q;split at q<;>first|rfl|(cases q)
    .exact k.2 u B
   .cases h
omit hR in
theorem Uv {F:List TypeId} {q:List Value} {B:List AV} (h:oh P F q=some B) {k s:Nat} (z:B[k]? =some (.dG s [])):∃v,q[k]? =some v/\v= .slice none 0 0:=by induction F generalizing q B k with
 |nil=>cases q with
  |nil=>simp[oh] at h;subst h;simp at z
  |cons v q=>simp[oh] at h
 |cons t F I=>cases q with
  |nil=>simp[oh] at h
  |cons v q=>
   simp only[oh] at h;split at h
   .rename_i x xs l D;injection h with h;subst h;cases k with
    |zero=>
     simp at z;subst z;refine⟨v,rfl,?_⟩;unfold ofConst at l;split at l
     .cases l
     .cases l
     .cases l
     .rfl
     .cases l
     .cases l
     .split at l<;>cases l
     .cases l
    |succ k=>obtain⟨K,G,H⟩:=I D (by simpa using z);exact⟨K,by simpa using G,H⟩
   .cases h
omit hR in
theorem TV {z:List AV}:∀{k:Nat} {q:List Value} {u:Value} {a:AV},cS μ z q->q[k]? =some u->rep μ a u->cS μ (z.set k a) q:=by induction z with
 |nil=>intro k q u a h l _;simp only[cS] at h;subst h;simp at l
 |cons c z H=>intro k q u a h l D;obtain⟨v,F,rfl,G,B⟩:=h;cases k with
  |zero=>simp at l;subst l;exact⟨v,F,rfl,D,B⟩
  |succ k=>exact⟨v,F,rfl,G,H B (by simpa using l) D⟩
omit hR in
theorem oG {t:TypeId} {z:List AV} (h:zeroCells P t=some z):∃i v,P.info? t=some i/\i.zero=some v/\lF μ z v.cells.toList:=by
 unfold zeroCells at h;split at h
 .rename_i i l;split at h
  .rename_i v q;exact⟨i,v,l,q,Ck h⟩
  .cases h
 .cases h
theorem x4 {ty:Nat->TypeId} {l:List (Nat×Operand)} {q:List (Nat×AV)} (h:partsOf P ty st l=some q):
  q.map (·.1)=l.map (·.1)/\cS μ (q.map (·.2)) (l.map λp=>a.eval p.2):=by
 induction l generalizing q with
 |nil=>simp[partsOf] at h;subst h;exact⟨rfl,dY⟩
 |cons p l z=>grind[partsOf,cT,gO]
omit hR in
theorem HK (z:List Value):∀(l:List Value) (q k:Nat),q+k+l.length<=z.length->
  ((l.zipIdx k).foldl (λ(B:Array Value) (p:Value×Nat)=>B.setIfInBounds (q+p.2) p.1) z.toArray)=(z.take (q+k)++l++z.drop (q+k+l.length)).toArray:=by
 intro l;induction l generalizing z with
 |nil=>intro q k h;simp
 |cons v l F=>intro q k h;simp only[List.zipIdx_cons,gx];simp only[bD] at h;have D:z.toArray.setIfInBounds (q+k) v=(z.set (q+k) v).toArray:=ai;rw[D,F (z.set (q+k) v) q (k+1) aI];congr 1;rw[<-nj,List.take_succ_eq_append_getElem aI];simp only[List.getElem_set_self,GU (aZ _),bD];rw[GV af];simp only[ef,gC,dQ];congr 4;omega
omit hR in
theorem Dv {place:Nat->Option (Nat×Nat)} {cells S:List AV} {H:List Value} {G:List (Nat×AV)} {us:List (Nat×Value)}
  (h:yo place cells G=some S) (Q:lF μ cells H) (F:G.map (·.1)=us.map (·.1)) (O:cS μ (G.map (·.2)) (us.map (·.2))) (U:∀p∈G,∀x,p.2≠ .gX x):
  ∃ws:List Value,Instr.fill place H.toArray us=some ws.toArray/\lF μ S ws:=by
 induction G generalizing cells H us with
 |nil=>cases us with
  |nil=>simp[yo] at h;subst h;exact⟨H,by simp[Instr.fill],Q⟩
  |cons u us=>simp at F
 |cons p G ih=>cases us with
  |nil=>simp at F
  |cons u us=>
   obtain⟨i,x⟩:=p;obtain⟨i',y⟩:=u;simp only[bS,cV] at F;obtain⟨rfl,F⟩:=F;simp only[bS,cS] at O;obtain⟨u',us',e,hx,O⟩:=O;simp only[cV] at e;obtain⟨rfl,rfl⟩:=e;simp only[yo] at h;split at h
   .cases h
   .rename_i l size R;split at h
    .rename_i B;have K:=Nw hx (λz=>U (i,x) ai z);have q:y.cells.size=size:=by
      have:=K.length;simpa[B.1] using this
     have hvl:=Q.length;have D:=((Q.take l).append K).append (Q.drop (l+size));obtain⟨ws,hw,hr⟩:=ih h D F O (λp hp=>U p (by simp[hp]));refine⟨ws,?_,hr⟩;simp only[Instr.fill,R];have V:¬(l+y.cells.size>H.toArray.size):=aI;rw[az (by simp[q];omega)];rw[<-hw];congr 1;have I:=HK H y.cells.toList l 0 aI;simp only[lY,Ba,q] at I;rw[<-I,<-Array.foldl_toList,RH]
    .cases h
omit hR in
theorem run_places (l:List Field) (q:l.all (λf=>(lB P f.type).isSome)=true):
  (l.mapM (λf=>Functor.map (Prod.mk f.offset) (sizeOf f.type)):Sem (List (Nat×Nat))).run P w= .ok (l.map λf=>(f.offset,(lB P f.type).getD 0)) w:=by
 induction l with
 |nil=>rfl
 |cons f l B=>simp only[lZ,aV] at q;obtain⟨n,z⟩:=q8.1 q.1;simp[q9,kU z,z,B q.2]
omit hR in
theorem HG {t:List TypeId}:∀{F:List Nat} {z B:List AV} {q:List Value},oh P t q=some z->Fl F z=some B->lF μ B q
 |[],z,B,q,h,l=>by simp only[Fl,bq] at l;subst l;exact Ck h
 |k::F,z,B,q,h,l=>by
  simp only[Fl] at l;split at l
  .rename_i s H;obtain⟨K,G,rfl⟩:=cH.1 l;have D:=HG h G;obtain⟨v,I,e⟩:=Uv h H;subst e;refine⟨?_,D.2⟩;have:=TV D.1 I (a:= .tU) (by simp[rep]);exact this
  .cases l
omit hR in
theorem NQ {h:Hint} {d:Option Nat} {t:TypeId} {z:List AV} (q:NP P h d t=some z):∃i v,P.info? t=some i/\i.zero=some v/\lF μ z v.cells.toList:=by
 unfold NP at q;split at q
 .rename_i H G;obtain⟨I,l,B⟩:=dA.1 q;unfold zeroCells at l;split at l
  .rename_i i D;split at l
   .rename_i v F;exact⟨i,v,D,F,HG l B⟩
   .cases l
  .cases l
 .exact oG q
theorem CU {o:Oper} {V:Option (List AV)} {t:TypeId} {l:Array (Nat×Operand)} {U:SV} (G:∀z,V=some z->∃i v,P.info? t=some i/\i.zero=some v/\lF μ z v.cells.toList) (S:o.op= .build t l) (h:zD P V t l st=some U):oR P μ loc o U a w:=by
 unfold zD at h;split at h
 .rename_i fs hu;split at h
  .rename_i z Q B;split at h
   .rename_i q;obtain⟨q,K⟩:=q;cases D:yo (pR P t) z Q with
    |none=>simp_all
    |some R=>
     simp[D] at h;subst h;obtain⟨i,v,hi,hv,I⟩:=G z rfl;obtain⟨h1,h2⟩:=x4 hR B
     obtain⟨ws,hw,F⟩:=Dv (us:=l.toList.map λp=>(p.1,a.eval p.2)) D I (by simp_all) (by simp_all[e8,nq]) (λp O x e=>by
      have:=cI.1 q p O
      rw[e] at this;cases this)
     refine eT (s:=Instr.build t (l.map λp=>(p.1,a.eval p.2))) (by unfold execOp;rw[S]) (v:= .agg ws.toArray) ?_ ?_
     .obtain⟨H⟩:=fs;have M6:=run_places (w:=w) H K;have hpe:(λx=>Option.map (λf:Field=>(f.offset,(lB P f.type).getD 0)) H[x]?)=pR P t:=by
       funext x;simp only[pR,w5,hu,GX];cases hx:H[x]? with
       |none=>rfl
       |some fd=>grind[Option.isSome_iff_exists,List.all_eq_true,List.mem_of_getElem?]
      simp_all[Array.toArray_toList,Instr.build,zeroValue,typeInfo,bW]
     .show rep μ (.agg R) _;exact⟨ws,rfl,F.1,F.2⟩
   grind
  grind
 .split at h
  .rename_i z Q s B hs;split at h
   .rename_i q;cases D:yo (λi=>some (i *s,s)) z Q with
    |none=>simp_all
    |some R=>
     simp[D] at h;subst h;obtain⟨i,v,hi,hv,I⟩:=G z rfl;obtain⟨h1,h2⟩:=x4 hR B
     obtain⟨ws,hw,F⟩:=Dv (us:=l.toList.map λp=>(p.1,a.eval p.2)) D I (by simp_all) (by simp_all[nq]) (λp O x e=>by
      have:=cI.1 q p O
      rw[e] at this;cases this)
     refine eT (by unfold execOp;rw[S]) (v:= .agg ws.toArray) ?_ ?_
     .simp_all[Instr.build,zeroValue,typeInfo,bW,kU]
     .exact⟨ws,rfl,F.1,F.2⟩
   grind
  grind
 grind
theorem SD {o:Oper} {B:Hint} {t:TypeId} {l:Array (Nat×Operand)} {q:SV} (D:o.op= .build t l) (h:zD P (NP P B o.dst t) t l st=some q):oR P μ loc o q a w:=
 CU hR (λz F=>NQ F) D h
omit hR in
theorem Md {l:TypeDesc} {V:TypeId} (Q:P.underlying V=some l) {key:AV} {O:Value} (I:rep μ key O) (z:oq P V key=true):∀{G:List AV} {eS:List MapEntry} {r:Option Nat} (i:Nat),cS μ G (eS.map (·.key))->xe key G=some r->
  (match r with
  |some j=>∃e,eS[j]? =some e/\Instr.findNow l O eS i=some (some (i+j,e.val))/\∃x,G[j]? =some x/\xb key x=some true
  |none=>Instr.findNow l O eS i=some none):=by
 intro G;induction G with
 |nil=>
  intro eS r i h q;simp only[xe,bq] at q;subst q;rw[cS] at h
  have:eS=[]:=by simpa using h
  subst this;rfl
 |cons x G ih=>intro eS r i h q;rw[cS] at h;obtain⟨u,us,e,D,F⟩:=h;cases eS with
  |nil=>simp at e
  |cons S eS=>
   simp only[bS,cV] at e;obtain⟨rfl,rfl⟩:=e;have same:∀b,xb key x=some b->Instr.sameNow l O S.key=some b:=by
    intro b H;unfold xb at H;split at H
    .rename_i s t;rw[rep] at I D;rw[I,D];simp only[oq,Q] at z;cases l<;>simp at z;simp only[Instr.sameNow,ad6];exact H
    .rename_i k s k' t;rw[rep] at I D;rw[I,D];simp only[oq,Q] at z;cases l<;>simp at z;simp only[Instr.sameNow];exact H
    .rename_i s t;rw[rep] at I D;rw[I,D];simp only[oq,Q] at z;cases l<;>simp at z;simp only[Instr.sameNow];exact H
    .cases H
   simp only[xe] at q;split at q
   .rename_i K;injection q with q;subst q;have B:=same _ K;exact⟨S,rfl,by simp only[Instr.findNow,B];simp,x,rfl,K⟩
   .rename_i K;have B:=same _ K;cases R:xe key G with
    |none=>simp[R] at q
    |some r'=>simp[R] at q;subst q;have U:=ih (i+1) F R;cases r' with
     |none=>simp only[Option.map_none,Instr.findNow,B];exact U
     |some j=>obtain⟨e,he,q,D⟩:=U;exact⟨e,by simpa using he,by simp only[Instr.findNow,B,q];congr 3;omega,by simpa using D⟩
   .cases q
omit hR in
theorem sd {B:TypeId} {key:AV} {D:Value} (q:rep μ key D) (l:oq P B key=true) (b:Bool) (w:World):(Instr.checkKey b 10000 B D).run P w= .ok () w:=by
 have key:∀n,(Instr.checkKey b (n+1) B D).run P w= .ok () w:=by
  intro n;unfold oq at l;split at l
  .rename_i z;rw[rep] at q;subst q;simp[Instr.checkKey,bW z]
  .rename_i z;rw[rep] at q;subst q;simp[Instr.checkKey,bW z]
  .rename_i z;rw[rep] at q;subst q;simp[Instr.checkKey,bW z]
  .cases l
 exact key 9999
omit hR in
theorem VY {z:TypeId} {key:AV} (l:oq P z key=true):∃q,P.underlying z=some q:=by
 unfold oq at l;split at l
 .exact⟨_, ‹_›⟩
 .exact⟨_, ‹_›⟩
 .exact⟨_, ‹_›⟩
 .cases l
omit hR in
theorem BA {B:TypeId} {key:AV} {D:Value} (I:rep μ key D) (l:oq P B key=true) {ks:List AV} {eS:List MapEntry} {r:Option Nat} (h:cS μ ks (eS.map (·.key))) (H:xe key ks=some r) (w:World):
  match r with
  |some j=>∃e,eS[j]? =some e/\(Instr.findKey B D eS).run P w= .ok (some (j,e.val)) w/\∃x,ks[j]? =some x/\xb key x=some true
  |none=>(Instr.findKey B D eS).run P w= .ok none w:=by
 obtain⟨F,z⟩:=VY l;have q:=Md z I l 0 h H;cases r with
 |none=>simp only[] at q⊢;simp[Instr.findKey,bW z,q]
 |some j=>obtain⟨e,G,K,O⟩:=q;exact⟨e,G,by simp[Instr.findKey,bW z,K],O⟩
omit hR in
theorem HQ {t:TypeId} {z:AV} (h:CH P t=some z) (w:World):∃v,(zeroValue t).run P w= .ok v w/\rep μ z v:=by
 unfold CH at h;split at h
 .rename_i i G;have l:∀v,i.zero=some v->(zeroValue t).run P w= .ok v w:=λv H=>by simp[zeroValue,typeInfo,G,H]
  split at h
  .rename_i D B;cases q:oh P (tD P 8 t) D.toList with
   |none=>simp[q] at h
   |some I=>simp[q] at h;subst h;have F:=Ck (μ:=μ) q;refine⟨_,l _ B,?_⟩;rw[rep];exact⟨D.toList,by simp,F.1,F.2⟩
  .rename_i v _ B;exact⟨v,l v B,xo h⟩
  .cases h
 .cases h
theorem OD {o:Oper} {t:TypeId} {x k:Operand} {ok:Bool} {sv:SV} (ho:o.op= .lookup t x k ok) (h:fB P o st=some sv):oR P μ loc o sv a w:=by
 unfold fB at h;rw[ho] at h;simp only[] at h;split at h
 .rename_i kt et hu;split at h
  .rename_i ks vs key hx hk;cases q:oq P kt key with
   |false=>simp_all
   |true=>
    simp only[q,ak] at h;have B:=gO hR hk;obtain⟨sx,hsx,hmx⟩:=dA.1 hx;have hm:=Ki hR hmx (bp hR hsx);have S:∀(y:AV) (b:Bool) (F:Value),rep μ y F->rep _ (found ok y b) (if ok=true then .tuple #[F, .bool b] else F):=λy b F Q=>by cases ok with
     |false=>exact Q
     |true=>exact⟨_,rfl,cT Q (cT (by simp[rep]) dY)⟩
    have run:∀(y) (b) (F),rep _ y F->(Instr.lookup t _ _ _).run P w= .ok _ w->oR P _ loc o (.pv _) a w:=λy b F Q hr=>eT (by unfold execOp;rw[ho]) hr (S y b _ Q)
    unfold Wa at h;rcases hm with⟨O,rfl,rfl⟩|⟨b,eS,R,O,hh,h1,h2⟩
    .simp[xe] at h;cases K:CH P et with
     |none=>simp_all
     |some z=>simp[K] at h;subst h;obtain⟨zv,G,l⟩:=HQ K w;refine run z _ _ l ?_;have D:=BA B q (ks:=[]) (eS:=[]) (by rfl) rfl w;rw[O];simp[Instr.lookup,bW hu,sd B q,D,G]
    .cases V:xe key ks with
     |none=>simp_all
     |some r=>have D:=BA B q h1 V w;cases r with
      |none=>simp[V] at h;cases K:CH P et with
       |none=>simp_all
       |some z=>simp[K] at h;subst h;obtain⟨zv,G,l⟩:=HQ K w;refine run z _ _ l ?_;rw[O];simp[Instr.lookup,bW hu,oD hh,sd B q,D,G]
      |some j=>simp[V] at h;cases hg:vs[j]? with
       |none=>simp_all
       |some y=>
        simp[hg] at h;subst h;obtain⟨e,he,H,_⟩:=D;obtain⟨F,I,hyr⟩:=tB h2 hg;have :=by
         have U :=by simpa using he
         simp[U] at I;exact I.symm
        subst this;refine run y _ _ hyr ?_;rw[O];simp[Instr.lookup,bW hu,oD hh,sd B q,H]
  grind
 grind
theorem OE {o:Oper} {t:TypeId} {x H:Operand} {lo D:Option Operand} {I:SV} (V:o.op= .slice t x lo D (some H)) (h:fB P o st=some I):oR P μ loc o I a w:=by
 unfold fB at h;rw[V] at h;simp only[Xr] at h;split at h
 rotate_left
 .cases h
 rename_i D;split at h
 .rename_i id hx;split at h
  .rename_i Q sz xs e s ka va kb vb q hs R U;split at h
   .injection h with h;subst h;obtain⟨hu,inf,G,hsz⟩:=gb hs;have hxv :=(bp hR hx).trans (jF (hR.obs _ _ q));have B:=bp hR R;have F:=bp hR U;simp[fW,rep] at B F;obtain⟨vs,z,hrc,_⟩:=hR.obs _ _ q;obtain⟨A,c,l,S,hA⟩:∃A c,loc id= .slice A xs.length c/\xs.length<=c/\(A.map (·.add (0 *s))=A):=by
     rcases z.2 with⟨e1,Q⟩|⟨g,K,O,e1,h2,h3,h4⟩
     .simp_all
     grind[add_zero']
    refine eT (s:=Instr.sliceAt t (a.eval x) (none) (some (a.eval D)) (some (a.eval H))) (by unfold execOp;simp_all) ?_ ⟨A,_,c,l,rfl⟩;simp_all[Instr.sliceAt,Instr.slice,bW,Instr.sliceBounds,Instr.sliceBound,asIntOf,sizeOf,typeInfo]
   grind
  grind
 grind
theorem zW {o:Oper} {B:SV} (h:fB P o st=some B):oR P μ loc o B a w:=by
 have l:=h;unfold fB at l;split at l
 .grind[Dy]
 .rename_i x q;exact Dy hR (.inr q) l
 .grind[Vo]
 .grind[Zs]
 .grind[aby]
 .grind[Mg]
 .grind[Hj]
 .grind[JV]
 .grind[H8]
 .grind[SE]
 .grind[H9]
 .grind[SF]
 .grind[Vn]
 .grind[SG]
 .grind[OE]
 .grind[Mh]
 .grind[OD]
 .rename_i q;exact CU hR (λz D=>oG D) q af
 simp_all
end
end
