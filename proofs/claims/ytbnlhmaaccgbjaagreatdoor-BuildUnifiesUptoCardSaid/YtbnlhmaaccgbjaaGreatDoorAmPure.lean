/- THE ABSTRACT MACHINE. -/
import Derived.Test.YtbnlhmaaccgbjaaGreatDoorAmRel
import Derived.Laws.Strings
import Derived.Laws.StructEq
set_option linter.all false
namespace Go.AM
section
variable {P:Program} {μ:Mu} {loc:Nat->Value} {w:World}
def xg {t:TypeId} {v:Value} {x:AV} (h:ofConst P t v=some x):rep μ x v:=by
 unfold ofConst at h;split at h
 .grind[rep]
 .grind[rep]
 .grind[rep]
 .cases l:isSlice P t with
  |none=>simp_all
  |some y=>simp[l] at h;subst h;exact⟨_,0,rfl,aU _,cW _, .inl rfl⟩
 .grind[rep]
 .grind[rep,Value.oneCell',Value.cells]
 .split at h
  .injection h with h;subst h;rw[rep];simp
  grind
 grind
def rG {t:TypeId} {b:Bool} (h:Eb P t=some b) (w:World):(isAgg t).run P w= .ok b w:=by
 unfold Eb at h;unfold isAgg;split at h
 .simp_all[bM]
 .simp_all[bM]
 .rename_i d q z l;injection h with h;subst h;simp only[jB,bM l,kV];rfl
 grind
def lz {t:TypeId} {n:Nat} (h:lJ P t=some n) (w:World):(sizeOf t).run P w= .ok n w:=by unfold lJ at h;cases l:P.info? t with
 |none=>simp_all
 |some i=>simp_all[sizeOf,typeInfo]
def fZ {t:TypeId} {e:TypeId} {s:Nat} (h:isSlice P t=some (e,s)):P.underlying t=some (.slice e)/\∃i,P.info? e=some i/\i.size=s:=by
 unfold isSlice at h;split at h
 .rename_i l z;cases q:P.info? l with
  |none=>simp_all
  |some i=>simp_all
 grind
theorem add_lit (b l j:Nat):(⟨b,l,none⟩:Addr).add j=⟨b,l+j,none⟩:=by simp_all[Addr.add]
theorem add_zero' (p:Addr):p.add 0=p:=by rfl
def sB {t:TypeId} {ad:Addr} {D:List AV} {z:List Value} {x:AV} (q:iZ P t D=some x) (B:lR μ D z)
  (l:∀j v,z[j]? =some v->w.cell? (ad.add j)=some v):∃v,(loadVar t ad).run P w= .ok v w/\rep μ x v:=by
 unfold iZ at q;split at q
 .rename_i n I O;split at q
  .injection q with q;subst q;have K:(z.take n).length=n:=by rw[fJ,B.length];omega
   have G:=A5 (P:=P) w _ (z.take n) (λj v F=>l j v (by grind));refine⟨.agg (z.take n).toArray,?_,?_⟩
   .simp_all[loadVar,rG,lz]
   .exact⟨_,rfl,(B.take n).1,(B.take n).2⟩
  simp_all
 .obtain⟨v,F,G⟩:=s7 B.1 q;have H:=l 0 v F;simp_all[Addr.add,loadVar,rG]
 simp_all
def Ll {t:TypeId} {D:List AV} {B:List Value} {x:AV} (q:Nat) (l:iZ P t (D.drop q)=some x) (z:lR μ D B):
  ∃v,(part t B.toArray q).run P w= .ok v w/\rep μ x v:=by
 unfold iZ at l;split at l
 .rename_i n F G;split at l
  .injection l with l;subst l;refine⟨.agg ((B.drop q).take n).toArray,?_,?_⟩
   .simp[part,rG F,lz G]
   .exact⟨_,rfl,((z.drop _).take n).1,((z.drop _).take n).2⟩
  simp_all
 .obtain⟨v,I,H⟩:=s7 (z.drop _).1 l;simp_all[part,rG]
 simp_all
def NH {xs:List SV} {l:List Value} (h:ig μ loc xs l) {i:Nat} {x:SV} (q:xs[i]? =some x):∃v,l[i]? =some v/\fU μ loc x v:=by induction xs generalizing l i with
 |nil=>simp at q
 |cons y xs D=>obtain⟨u,F,rfl,z,B⟩:=h;grind
theorem qk {xs:List SV} {l:List Value} (h:ig μ loc xs l):l.length=xs.length:=by induction xs generalizing l with
 |nil=>exact aP _ h
 |cons x xs z=>obtain⟨u,B,rfl,_,q⟩:=h;simp_all
theorem DZ {xs:List SV} {l:List Value} (h:ig μ loc xs l) (n:Nat):ig μ loc (xs.drop n) (l.drop n):=by induction n generalizing xs l with
 |zero=>assumption
 |succ n z=>cases xs with
  |nil=>simp_all[ig]
  |cons x xs=>obtain⟨u,B,rfl,_,q⟩:=h;simp_all
theorem D0 {xs:List SV} {l:List Value} (h:ig μ loc xs l) (n:Nat):ig μ loc (xs.take n) (l.take n):=by induction n generalizing xs l with
 |zero=>rfl
 |succ n B=>cases xs with
  |nil=>simp_all[ig]
  |cons x xs=>obtain⟨u,D,rfl,q,z⟩:=h;exact⟨u,_,by simp,q,B z⟩
theorem mz {xs z:List SV} {l q:List Value} (h:ig μ loc xs l) (k:ig μ loc z q):ig μ loc (xs++z) (l++q):=by induction xs generalizing l with
 |nil=>have:l=[]:=h;simp_all
 |cons x xs F=>obtain⟨u,G,rfl,B,D⟩:=h;exact⟨u,_,by simp,B,F D⟩
def sw {l:List AV} {q:List Value} (h:cM μ l q):ig μ loc (l.map .pv) q:=by induction l generalizing q with
 |nil=>assumption
 |cons x xs D=>obtain⟨u,F,rfl,z,B⟩:=h;exact⟨u,F,rfl,z,D B⟩
def RA {xs:List SV} {q:List oE} {B:List Value} (h:wQ xs=some q) (k:ig μ loc xs B):kT μ loc q B:=by induction xs generalizing q B with
 |nil=>simp[wQ,aW] at h;subst h;exact k
 |cons x xs G=>obtain⟨u,H,rfl,D,F⟩:=k;cases x with
  |pv v=>simp[wQ,cB] at h;obtain⟨z,l,rfl⟩:=h;exact⟨u,H,rfl,D,G l F⟩
  |row id=>simp[wQ,cB] at h;obtain⟨z,l,rfl⟩:=h;exact⟨u,H,rfl,D,G l F⟩
  |_=>simp[wQ] at h
def Hj {xs:List SV} {l:List AV} {q:List Value} (h:mR xs=some l) (k:ig μ loc xs q):cM μ l q:=by induction xs generalizing q l with
 |nil=>simp[mR] at h;subst h;assumption
 |cons x xs F=>cases x with
  |pv v=>simp[mR] at h;cases z:mR xs with
   |none=>simp_all
   |some G=>simp[z] at h;subst h;obtain⟨u,H,rfl,B,D⟩:=k;exact cE B (F z D)
  |_=>simp[mR] at h
theorem dc {q:Nat} {xs:List (List AV)} {l:List Value} (h:cT μ q xs l):l.length=xs.length *q:=by induction xs generalizing l with
 |nil=>have:l=[]:=h;simp_all
 |cons x xs D=>obtain⟨F,ws,rfl,_,z,B⟩:=h;grind
def PS {q:Nat} {xs:List (List AV)} {z:List Value} (h:cT μ q xs z) {i:Nat} {x:List AV} (B:xs[i]? =some x):
  ∃l:List Value,lR μ x l/\l.length=q/\∀j u,l[j]? =some u->z[i *q+j]? =some u:=by
 induction xs generalizing z i with
 |nil=>simp at B
 |cons y xs H=>obtain⟨l,ws,rfl,D,F,G⟩:=h;cases i with
  |zero=>grind
  |succ i=>grind
end
section
variable {P:Program} {N:Nat} {w0:World} {μ0:Mu} {L:sQ} {μ:Mu} {loc:Nat->Value} {st:St} {a:Act} {w:World}
theorem bf (hR:Rel N w0 μ0 L μ loc st a w) {t:TypeId} {x:Operand} {q:SV} (h:bD P t st x=some q):fU μ loc q (a.eval x):=by cases x with
 |tmp i=>obtain⟨v,B,z⟩:=hR.env i _ h;simp_all[Act.eval]
 |const v=>simp[bD] at h;cases l:ofConst P t v with
  |none=>simp_all
  |some y=>simp[l] at h;subst h;exact xg l
 |func f=>simp[bD] at h;subst h;exact⟨[],rfl,dA⟩
 |global g=>simp[bD] at h
theorem fP (hR:Rel N w0 μ0 L μ loc st a w) {t:TypeId} {x:Operand} {v:AV} (h:(bD P t st x).bind iY =some v):rep μ v (a.eval x):=by cases l:bD P t st x with
 |none=>simp_all
 |some q=>have:=bf hR l;cases q<;>simp[l,iY] at h;subst h;exact this
def R4 (op:BinOp) (t:TypeId) (X Y:Operand) (k k':IntKind) (n m:Int) (w:World):(eqGuard op t X Y (.int k n) (.int k' m)).run P w= .ok () w:=by unfold eqGuard;simp
def R5 (op:BinOp) (t:TypeId) (X Y:Operand) (x y:ByteArray) (w:World):(eqGuard op t X Y (.string x) (.string y)).run P w= .ok () w:=by unfold eqGuard;simp
def OA (op:BinOp) (t:TypeId) (X Y:Operand) (x y:Bool) (w:World):(eqGuard op t X Y (.bool x) (.bool y)).run P w= .ok () w:=by unfold eqGuard;simp
def run_equalIn_bool (d:Nat) {t:TypeId} (l:P.underlying t=some .bool) (x y:Bool) (w:World):(Op.equalIn (d+1) t (.bool x) (.bool y)).run P w= .ok (x==y) w:=by simp[Op.equalIn,bM l]
def ad7 (a b:List UInt8):((⟨a.toArray⟩:ByteArray)==⟨b.toArray⟩)=(a==b):=by
 show(a.toArray==b.toArray)=(a==b)
 simp
def ZM {t:TypeId} {a:AV} (h:kg P t a=true):Eb P t=some false:=by unfold kg at h;grind[Eb]
def G5 {xs Q:List AV} {vs V:List Value} (S:lR μ xs vs) (U:lR μ Q V) (d:Nat):∀{F:List Field} {b:Bool},MO P xs Q F=some b->(Op.eqFields (d+1) vs.toArray V.toArray F).run P w= .ok b w
 |[],b=>λh=>by simp_all[MO,Op.eqFields]
 |f::F,b=>λh=>by
  unfold MO at h;split at h
  .rename_i R z G H;cases I:(!(f.name== "_")&&kg P f.type R&&kg P f.type z&&(lJ P f.type).isSome) with
   |false=>simp_all
   |true=>
    simp[I] at h;simp at I;obtain⟨⟨⟨hn,l⟩,hky⟩,O⟩:=I;obtain⟨n,D⟩:=oQ.1 O;have B:=ZM l;have t1:iZ P f.type (xs.drop f.offset)=some R:=by unfold iZ;rw[B,D];simpa using G
    have t2:iZ P f.type (Q.drop f.offset)=some z:=by unfold iZ;rw[B,D];simpa using H
    obtain⟨v,hv,rv⟩:=Ll (w:=w) _ t1 S;obtain⟨u,hu,ru⟩:=Ll (w:=w) _ t2 U;split at h
    .rename_i r q K hq;injection h with h;subst h;have ih:=G5 S U d hq;have he:(Op.equalIn (d+1) f.type v u).run P w= .ok r w:=by
      unfold kg at l;split at l
      .cases z<;>simp[w5] at K;simp_all[rep,run_equalIn_string]
      .cases z<;>simp[w5] at K;simp_all[rep,run_equalIn_int]
      .cases z<;>simp[w5] at K;simp_all[rep,run_equalIn_bool']
      .cases l
     simp[Op.eqFields,aB hn,jB,hv,hu,he,kV,Sem.run_ite,ih];cases r<;>simp
    grind
  grind
def N9 {op:BinOp} {t:TypeId} {xs F:List AV} {r:AV} {X Y:Operand} {u v:Value} (h:Uy P op t xs F=some r) (Q:rep μ (.agg xs) u) (R:rep μ (.agg F) v):
  ∃z,(do eqGuard op t X Y u v;binOp op t u v).run P w= .ok z w/\rep μ r z:=by
 obtain⟨vs,rfl,H,I⟩:=Q;obtain⟨V,rfl,S,U⟩:=R;unfold Uy at h;split at h
 .rename_i G D;cases l:(!(P.stoodInHeld t)&& !(P.eqGuardType P.depth t)) with
  |false=>simp_all
  |true=>
   simp[l] at h;simp at l;have B:P.fieldsOf t=G:=by unfold Program.fieldsOf;rw[D]
   have q:P.underlying t=some (.struct (P.fieldsOf t)):=by rw[B];exact D
   have O:∀b,MO P _ _ _=some b->(Op.equalIn 10000 t _ _).run P w= .ok b w:=λb K=>by rw[run_equalIn_struct w _ t _ _ q l.1,B];exact G5 ⟨H,I⟩ ⟨S,U⟩ _ K
   simp[jB,run_eqGuard_agg w _ t X Y _ _ l.2];split at h
   .injection h with h;subst h;simp_all[binOp,Op.equal,Op.maxDepth,rep]
   .injection h with h;subst h;simp_all[binOp,Op.equal,Op.maxDepth,rep]
   grind
 grind
def Y3 {op:BinOp} {t:TypeId} {x y r:AV} {X Y:Operand} {u v:Value} (h:bin P op t x y=some r) (l:rep μ x u) (q:rep μ y v):
  ∃z,(do eqGuard op t X Y u v;binOp op t u v).run P w= .ok z w/\rep μ r z:=by
 cases x with
 |int k n=>cases y with
  |int k' m=>
   rw[rep] at l q;subst l;subst q;simp only[jB,R4,kV];unfold bin at h;cases op
   case shl=>
    simp only[B4] at h;split at h
    .cases h
    .injection h with h;subst h;rename_i B;exact⟨_,by simp[binOp,Op.shift,B];rfl,by simp[rep]⟩
   case shr=>
    simp only[B4] at h;split at h
    .cases h
    .injection h with h;subst h;rename_i B;exact⟨_,by simp[binOp,Op.shift,B];rfl,by simp[rep]⟩
   case quo=>
    simp only[] at h;split at h
    .rename_i e;subst e;simp only[Gm] at h;split at h
     .cases h
     .injection h with h;subst h;simp_all[binOp,Op.intDiv,rep]
    grind
   case rem=>
    simp only[] at h;split at h
    .rename_i e;subst e;simp only[Gm] at h;split at h
     .cases h
     .injection h with h;subst h;simp_all[binOp,Op.intDiv,rep]
    grind
   all_goals
    simp only[] at h;split at h
    .rename_i e;subst e;simp only[Gm,aW] at h;subst h;simp_all[binOp,Op.intArith,Op.intBits,Op.intCmp,rep]
    grind
  |_=>simp[bin] at h
 |str s=>cases y with
  |str D=>
   rw[rep] at l q;subst l;subst q;simp only[jB,R5,kV];unfold bin at h;simp only[WA] at h;cases op
   case add=>
    simp only[] at h;split at h
    .injection h with h;subst h;refine⟨.string ⟨(s++D).toArray⟩,?_,by simp[rep]⟩;have B:¬((((⟨s.toArray⟩:ByteArray).size+(⟨D.toArray⟩:ByteArray).size))>IntKind.i64.max):=by
      simp[ByteArray.size];omega
     have e:(⟨s.toArray⟩:ByteArray)++⟨D.toArray⟩=⟨_⟩:=rfl;simp_all[binOp,Op.stringOp]
    grind
   all_goals first
    |grind
    |(simp at h;subst h;simp_all[binOp,Op.stringOp,rep])
  |_=>simp[bin] at h
 |bool b=>cases y with
  |bool c=>
   subst l;subst q;simp[jB,OA];unfold bin at h;simp at h;split at h
   .injection h with h;subst h;simp_all[binOp,Op.equal,Op.maxDepth,run_equalIn_bool,rep]
   .injection h with h;subst h;simp_all[binOp,Op.equal,Op.maxDepth,run_equalIn_bool,rep]
   grind
  |_=>simp[bin] at h
 |agg xs=>cases y with
  |agg F=>exact N9 (by assumption) l q
  |_=>simp[bin] at h
 |_=>simp[bin] at h
def aei {op:UnOp} {x r:AV} {u:Value} (h:un op x=some r) (l:rep μ x u):∃z,(Op.unary op u).run P w= .ok z w/\rep μ r z:=by
 unfold un at h;split at h
 .injection h with h;subst h;simp_all[rep,Op.unary,Op.intArith]
 .injection h with h;subst h;simp_all[rep,Op.unary]
 grind
def jj {B:Nat} {id:Nat} {e:TypeId} {D:Nat} {xs:List (List AV)} (h:nv B L μ loc w id (.row e D xs)):fS (loc id)=loc id:=by obtain⟨F,l,_⟩:=h;rcases l.2 with⟨e1,_⟩|⟨g,q,z,e1,_⟩<;>rw[e1]<;>rfl
def WW {D:Nat} {id:Nat} {k e:TypeId} {B q:List AV} (h:nv D L μ loc w id (.mp k e B q)):fS (loc id)=loc id:=by obtain⟨b,dM,l,z,_⟩:=h;rw[z];rfl
def uo {q b:Nat} {xs:List (List AV)} {l:Nat} (h:lE μ q b xs l):∃z,cT μ q xs z/\∀j u,z[j]? =some u->μ b (l+j)=some u:=by induction xs generalizing l with
 |nil=>exact⟨[],rfl,ai⟩
 |cons x xs H=>obtain⟨⟨K,B,D,F,O⟩,G⟩:=h;obtain⟨ws,I,R⟩:=H G;refine⟨_,⟨K,ws,rfl,⟨B,D⟩,F,I⟩,λj u Q=> ?_⟩;grind
def kU {B:Nat} {xs:List (List AV)} {q:List Value} (h:cT μ B xs q):∀u∈q,u.oneCell'=true:=by induction xs generalizing q with
 |nil=>have:q=[]:=h;simp_all
 |cons x xs G=>
  obtain⟨a,b,rfl,z,D,F⟩:=h;intro u l;rcases bu.1 l with l|l
  .exact z.2 u l
  grind
def lu {l:Nat} {xs:List (List AV)} {q:List Value} (h:cT μ l xs q) (n:Nat):cT μ l (xs.take n) (q.take (n *l)):=by induction n generalizing xs q with
 |zero=>simp[cT]
 |succ n F=>cases xs with
  |nil=>simp_all[cT]
  |cons x xs=>obtain⟨G,ws,rfl,z,B,D⟩:=h;refine⟨G,_,?_,z,B,F D⟩;grind[Nat.add_mul]
def Dm {l:Nat} {xs:List (List AV)} {q:List Value} (h:cT μ l xs q) (n:Nat):cT μ l (xs.drop n) (q.drop (n *l)):=by induction n generalizing xs q with
 |zero=>simp_all
 |succ n G=>cases xs with
  |nil=>simp_all[cT]
  |cons x xs=>obtain⟨z,ws,rfl,B,D,F⟩:=h;rw[show(n+1) *l=z.length+n *l from by grind,A6];simp_all
theorem tM (hR:Rel N w0 μ0 L μ loc st a w) {v:SV} {u:Value} {sz:Nat} {xs:List (List AV)} (q:elems st v=some (sz,xs)) (R:fU μ loc v u):
  ∃A c,u= .slice A xs.length c/\∃D,cT μ sz xs D/\(xs.length=0\/∃ad:Addr,A=some ad/\∀j x,D[j]? =some x->w.cell? (ad.add j)=some x):=by
 cases v with
 |pv v=>cases v with
  |dD V I=>
   obtain⟨rfl,rfl⟩:=q;obtain⟨A,c,e1,_,_,h3⟩:=R;rcases h3 with h0|⟨b,off,rfl,H⟩
   .have :=kW h0;subst this;exact⟨A,c,e1,[],rfl, .inl rfl⟩
   .obtain⟨D,k1,k2⟩:=uo H;exact⟨_,c,e1,D,k1, .inr ⟨_,rfl,λj u hu=>by rw[add_lit];exact yI (hR.xZ _ _ _ (k2 j u hu)) (kU k1 u (aZ hu))⟩⟩
  |_=>simp[elems] at q
 |row S=>
  simp[elems] at q;split at q
  .rename_i e' V I z;obtain⟨rfl,rfl⟩:=q;have G:=hR.obs _ _ z;have hb:=jj G;obtain⟨D,l,B,_⟩:=G;have Re:u=fS _:=R;rcases l.2 with⟨e1,e2⟩|⟨g,F,K,e1,_⟩
   .grind
   .exact⟨_,F,by simp_all,D,B, .inr ⟨_,rfl,l.cells (g:=g) (by rw[e1];rfl)⟩⟩
  simp_all
 |sub S s2 U O=>
  simp[elems] at q;split at q
  .rename_i e' V I z;cases hq:Nat.beq s2 V with
   |false=>simp_all
   |true=>
   rw[hq] at q;obtain⟨rfl,rfl⟩:=q;obtain⟨D,l,B,_⟩:=hR.obs _ _ z;obtain⟨A,n,c,A',c',h1,h2,h3,h4,h5,h6,h7⟩:=R;have hn:n=I.length:=by rcases l.2 with⟨e1,e2⟩|⟨g,F,K,e1,_⟩<;>simp_all
   have hl:((I.take O).drop U).length=O-U:=aH;refine⟨A',c',by simp_all,_,Dm (lu B _) _,?_⟩;by_cases Q:U<O
   .obtain⟨g,eA,eA'⟩:=h7 Q;have hcl:=l.cells (by rw[h1,eA];rfl);simp_all[oR,add_lit]
   omega
  simp_all
 |_=>simp[elems] at q
def Hs (hR:Rel N w0 μ0 L μ loc st a w) {v:SV} {u:Value} {sz:Nat} {xs:List (List AV)} (h:elems st v=some (sz,xs)) (l:fU μ loc v u):
  ∃A c,u= .slice A xs.length c:=by
 grind[tM]
def SZ (hR:Rel N w0 μ0 L μ loc st a w) {v:SV} {u:Value} {n:Nat} (h:lenOf st v=some n) (z:fU μ loc v u):∃A c,u= .slice A n c:=by
 unfold lenOf at h;split at h
 .obtain⟨A,c,e⟩:=Hs hR rfl z;simp_all
 .split at h
  .rename_i e s xs l;injection h with h;subst h;exact Hs hR (sz:=s) (by simp[elems,l]) z
  .rename_i e s k H K xs R l;obtain⟨m,O,Q,G,_,q,_⟩:=hR.obs _ _ l;have e1:u=m:=(z).trans (by rw[G];rfl);rcases q.2 with⟨F,I⟩|⟨g,B,D,F,_⟩
   .simp_all
   simp_all
  grind
 .injection h with h;subst h;obtain⟨b,_,e⟩:=z;exact⟨_,_,e⟩
 grind
def gU {r:Nat} {q:Array MapEntry} {l:Nat} (h:w.heap[r]? =some (.map q l)):(getObj r).run P w= .ok (.map q l) w:=by simp[getObj,Sem.run,h]
def KB (hR:Rel N w0 μ0 L μ loc st a w) {v:SV} {u:Value} {q B:List AV} (h:maps st v=some (q,B)) (G:fU μ loc v u):
  (u= .map none/\q=[]/\B=[])\/∃b dM l,u= .map (some b)/\w.heap[b]? =some (.map dM l)/\cM μ q (dM.toList.map (·.key))/\cM μ B (dM.toList.map (·.val)):=by
 unfold maps at h;split at h
 .rcases G with G|⟨b,kv,U,rfl,H,I,K⟩
  .simp_all
  .obtain⟨dM,l,O,rfl,rfl⟩:=see_map (hR.xZ _ _ _ K);simp_all
 .rename_i id;cases F:st.ob id with
  |none=>simp_all
  |some o=>cases o with
   |box t R=>simp_all
   |row e s Q=>simp_all
   |mr k e s z D=>simp_all
   |rn e s k S s' xs Q=>simp_all
   |it s n=>simp_all
   |lp s=>simp_all
   |mp k e z D=>have V:=WW (hR.obs _ _ F);obtain⟨b,dM,l,hl,_,O,_,H,I,_⟩:=hR.obs _ _ F;simp_all[fU]
 grind
def oF (P:Program) (μ:Mu) (loc:Nat->Value) (o:Oper) (l:SV) (a:Act) (w:World):Prop:=
 ∃v,(execOp a.eval o).run P w= .ok (.value v) w/\fU μ loc l v
def fh {o:Oper} {s:Sem Value} {l:SV} (z:execOp a.eval o=(do pure (.value (<-s)))) {v:Value} (B:s.run P w= .ok v w) (q:fU μ loc l v):oF P μ loc o l a w:=
 ⟨v,by simp_all,q⟩
section
variable (hR:Rel N w0 μ0 L μ loc st a w)
include hR
theorem DK {o:Oper} {x:Operand} {q:SV} (l:o.op= .move x\/o.op= .assign x) (h:bD P o.type st x=some q):oF P μ loc o q a w:=by refine⟨_,?_,bf hR h⟩;rcases l with l|l<;> · unfold execOp;simp_all
theorem Vg {o:Oper} {c x y:Operand} {q:SV} (B:o.op= .pick c x y) (h:eW P o st=some q):oF P μ loc o q a w:=by
 unfold eW at h;rw[B] at h;simp at h;split at h
 .rename_i t z;have l:=bf hR z;simp[fU,rep] at l;cases t with
  |true=>refine⟨_,?_,bf hR h⟩;simp_all[execOp,asBool]
  |false=>refine⟨_,?_,bf hR h⟩;simp_all[execOp,asBool]
 grind
theorem Zx {o:Oper} {op:BinOp} {t I:TypeId} {x y:Operand} {B:SV} (q:o.op= .binOp op t x y I) (h:eW P o st=some B):oF P μ loc o B a w:=by
 unfold eW at h;rw[q] at h;simp at h;split at h
 .rename_i u v F G;cases l:bin P op t u v with
  |none=>simp_all
  |some r=>simp[l] at h;subst h;obtain⟨z,H,D⟩:=Y3 l (fP hR F) (fP hR G);exact fh (by unfold execOp;rw[q]) H D
 grind
theorem abG {o:Oper} {op:UnOp} {t:TypeId} {x:Operand} {B:SV} (q:o.op= .unOp op t x) (h:eW P o st=some B):oF P μ loc o B a w:=by
 unfold eW at h;rw[q] at h;simp at h;split at h
 .rename_i u F;cases l:un op u with
  |none=>simp_all
  |some r=>simp[l] at h;subst h;obtain⟨z,G,D⟩:=aei l (fP hR F);exact fh (by unfold execOp;rw[q]) G D
 grind
omit hR in
theorem RD {xs:List (List AV)} {G:List UInt8} {F:List Value} (h:bytesOf xs=some G) (z:cT μ 1 xs F):∃D:List Int,F=D.map (Value.int .u8)/\G=D.map λn=>UInt8.ofNat n.toNat:=by induction xs generalizing G F with
 |nil=>simp only[bytesOf,aW] at h;subst h;have:F=[]:=z;subst this;exact⟨[],rfl,rfl⟩
 |cons x xs U=>
  obtain⟨u1,ws,rfl,R,V,S⟩:=z;unfold bytesOf at h;split at h
  .rename_i H;cases H
  .rename_i n l H;injection H with e1 Q;subst e1;subst Q;cases I:bytesOf xs with
   |none=>simp[I] at h
   |some O=>simp[I] at h;subst h;obtain⟨D,rfl,rfl⟩:=U I S;have q:=R.1;rw[cM] at q;obtain⟨y,ys,rfl,K,B⟩:=q;rw[cM] at B;subst B;rw[rep] at K;subst K;exact⟨n::D,by simp,ai⟩
  .cases h
omit hR in
theorem foldl_push (l:List Int):l.foldl (λ(r:ByteArray) n=>r.push (UInt8.ofNat n.toNat)) ByteArray.empty=⟨(l.map λn=>UInt8.ofNat n.toNat).toArray⟩:=by
 have key:∀(l:List Int) (s:ByteArray),l.foldl (λ(r:ByteArray) n=>r.push (UInt8.ofNat n.toNat)) s=⟨s.data++(l.map λn=>UInt8.ofNat n.toNat).toArray⟩:=by intro l;induction l with
  |nil=>intro s;simp
  |cons n l q=>intro s;simp only[gJ,q];simp[ByteArray.push]
 rw[key];simp
theorem Ms {o:Oper} {t S:TypeId} {x:Operand} {sv:SV} (G:o.op= .convert t S x) (h:eW P o st=some sv):oF P μ loc o sv a w:=by
 unfold eW at h;rw[G] at h;simp only[] at h;split at h
 .rename_i e hu hd;split at h
  .rename_i xs he hsz F;cases hb:bytesOf xs with
   |none=>simp_all
   |some bs=>
    simp[hb] at h;subst h;obtain⟨sx,K,H⟩:=dm.1 F;obtain⟨A,c,R,U,B,D⟩:=tM hR H (bf hR K);obtain⟨ns,z,l⟩:=RD hb B;have O:=dc B;refine fh (s:=convert t S (a.eval x)) (by unfold execOp;rw[G]) (v:= .string ⟨bs.toArray⟩) ?_ (by rfl);have e1:∀v:Value,(∃A n c,v= .slice A n c)->(convert t S v).run P w=(Conv.bytesToString v).run P w:=by rintro v ⟨A,n,c,rfl⟩;simp_all[convert,bM]
    rw[R,e1 _ ⟨_,_,_,rfl⟩];rcases D with h0|⟨V,rfl,hc⟩
    .have:U=[]:=kW af
     subst this;have I:ns=[]:=by cases ns with
      |nil=>rfl
      |cons=>simp at z
     subst I;have l:bs=[]:=l;subst l;rw[h0];cases A with
     |none=>rfl
     |some V=>rfl
    .have hl:=A5 (P:=P) w V U hc;have q:U.length=xs.length:=by rw[O];simp
     rw[q,z] at hl;rw[run_bytesToString w _ _ c _ hl,l,foldl_push]
  grind
 .split at h
  .rename_i k' n F;injection h with h;subst h;have Q:=fP hR F;rw[rep] at Q;refine fh (by unfold execOp;rw[G]) ?_ (by rfl);simp_all[convert,bM,Conv.intToInt]
  grind
 .split at h
  .rename_i s F;injection h with h;subst h;have Q:=fP hR F;rw[rep] at Q;refine fh (by unfold execOp;rw[G]) ?_ (by rfl);simp_all[convert,bM]
  grind
 grind
theorem AE {b:Bool} {B r:AV} {l:List Operand} {u:Value} (h:ng P st b B l=some r) (I:rep μ B u):
  ∃v,((l.map a.eval).foldlM (if b then Builtin.max2 else Builtin.min2) u).run P w= .ok v w/\rep μ r v:=by
 induction l generalizing B u with
 |nil=>simp[ng] at h;simp_all
 |cons x l R=>
  simp[ng] at h;split at h
  .rename_i v O;split at h
   .rename_i U q;have K:=fP hR O;unfold adw at q;split at q
    .grind[rep,Builtin.max2,Builtin.min2]
    .rename_i D F;injection q with q;subst q;rw[rep] at I K;subst I;obtain⟨z,Q,G⟩:=R h (u:= .string ⟨(bif b then(bif !(Op.bytesLess D F) then D else F) else(bif Op.bytesLess D F||D==F then D else F)).toArray⟩) (by simp[rep]);refine⟨z,?_,G⟩;rw[<-Q];simp[bw,K];cases b with
     |true=>cases H:Op.bytesLess _ _<;>simp[Builtin.max2,Op.stringOp,asBool,H]
     |false=>cases H:Op.bytesLess _ _<;>cases S:D==F<;>simp_all[Builtin.min2,Op.stringOp,asBool]
    simp_all
   grind
  grind
theorem HC {o:Oper} {c:Call} {V:SV} (S:o.op= .call c) (h:yz P c st=some V):oF P μ loc o V a w:=by
 obtain⟨O,⟨args⟩,⟨F⟩⟩:=c;unfold yz at h;simp only[] at h;split at h
 .rename_i x;split at h
  .rename_i t;split at h
   .rename_i s G B;injection h with h;subst h;have q:=bf hR B;simp only[fU,rep] at q;refine⟨.int .i64 s.length,?_,by rfl⟩;have R:(⟨s.toArray⟩:ByteArray).size=s.length:=rfl;unfold execOp;rw[S];simp[resolve,invoke,builtin,Builtin.len_,bM G,q,goInt,R]
   .rename_i e G B;injection h with h;subst h;have q:=bf hR B;simp only[fU,rep] at q;refine⟨.int .i64 0,?_,by rfl⟩;simp_all[execOp,resolve,invoke,builtin,Builtin.len_,bM,goInt]
   .rename_i e id sz lo hi G B;injection h with h;subst h;obtain⟨A,n,c,A',c',_,hlo,hhi,_,q,_⟩:=bf hR B;refine⟨.int .i64 ((hi-lo:Nat):Int),?_,by rfl⟩;simp_all[execOp,resolve,invoke,builtin,Builtin.len_,bM,goInt]
   .rename_i e v _ _ G B;cases H:lenOf st v with
    |none=>simp_all
    |some y=>simp[H] at h;subst h;obtain⟨A,c,q⟩:=SZ hR H (bf hR B);refine⟨.int .i64 y,?_,by rfl⟩;simp_all[execOp,resolve,invoke,builtin,Builtin.len_,bM,goInt]
   .rename_i kt et v G B;cases H:maps st v with
    |none=>simp_all
    |some y=>
     obtain⟨U,vs⟩:=y;simp[H] at h;subst h;refine⟨.int .i64 U.length,?_,by rfl⟩;unfold execOp;rw[S];rcases KB hR H (bf hR B) with⟨q,rfl,rfl⟩|⟨b,dM,Q,q,hh,h1,h2⟩
     .simp_all[resolve,invoke,builtin,Builtin.len_,bM,goInt]
     .have I:dM.size=U.length:=by simpa using tB h1
      simp[resolve,invoke,builtin,Builtin.len_,bM G,q,goInt,gU hh,I]
   grind
  grind
 .rename_i x l;split at h
  .rename_i v q;cases K:ng P st true v l with
   |none=>simp_all
   |some r=>simp[K] at h;subst h;obtain⟨z,hz,D⟩:=AE hR K (fP hR q);refine⟨z,?_,D⟩;simp_all[execOp,fW,resolve,invoke,builtin,Builtin.max_]
  grind
 .rename_i x l;split at h
  .rename_i v q;cases K:ng P st false v l with
   |none=>simp_all
   |some r=>simp[K] at h;subst h;obtain⟨z,hz,D⟩:=AE hR K (fP hR q);refine⟨z,?_,D⟩;simp_all[execOp,resolve,invoke,builtin,Builtin.min_]
  grind
 grind
omit hR in
theorem Hv {t:TypeId} {f:Nat} {fd:Field} (h:wU P t f=some fd):∃l,P.underlying t=some (.struct l)/\l[f]? =some fd:=by
 unfold wU at h;split at h
 .rename_i l q;exact⟨l,q,h⟩
 .cases h
theorem Iv {o:Oper} {t:TypeId} {x:Operand} {f:Nat} {O:SV} (B:o.op= .fieldAddr t x f) (h:eW P o st=some O):oF P μ loc o O a w:=by
 unfold eW at h;rw[B] at h;simp at h;split at h
 .rename_i fd R;obtain⟨fs,hu,S⟩:=Hv R;split at h
  .cases h
  .have run:∀D:Addr,(Instr.fieldAt t (.pointer (some D)) f).run P w= .ok (.pointer (some (D.add fd.offset))) w:=λD=>by
    simp_all[Instr.fieldAt,bM,Instr.sureAddr,fieldPlace,lz]
   split at h
   .rename_i id z q;injection h with h;subst h;obtain⟨b,I,l⟩:=bf hR q;refine fh (by unfold execOp;rw[B]) (by rw[l];exact run _) ?_;exact⟨b,I,by rw[add_lit]⟩
   .rename_i Q q;injection h with h;subst h;obtain⟨b,z,vs,l,F,V⟩:=bf hR q;refine fh (by unfold execOp;rw[B]) (by rw[l];exact run _) ?_;refine⟨b,_,_,by rw[add_lit],F.drop _,λj v U=> ?_⟩;grind
   .rename_i Q q;injection h with h;subst h;have K:=bf hR q;obtain⟨b,z,vs,l,G,H,V⟩:=K;have F:lR _ _ _:=⟨G,H⟩
    refine fh (by unfold execOp;rw[B]) (by rw[l];exact run _) ?_;refine⟨b,_,_,by rw[add_lit],F.drop _,λj v U=> ?_⟩;grind
   .rename_i id sz i z q;injection h with h;subst h;obtain⟨g,n',c,I,l⟩:=bf hR q;refine fh (by unfold execOp;rw[B]) (by rw[l];exact run _) ?_;exact⟨g,n',c,I,by rw[add_lit,kX]⟩
   grind
  grind
 grind
theorem Kh {o:Oper} {x:Operand} {z:SV} (B:o.op= .nilCheck x) (h:eW P o st=some z):oF P μ loc o z a w:=by
 unfold eW at h;simp[B] at h;have G:bD P 0 st x=some z/\∃p,a.eval x= .pointer (some p):=by
  split at h
  .rename_i id q l;have:=bf hR l;grind[fU]
  .rename_i D l;have:=bf hR l;grind[fU]
  .rename_i D l;have:=bf hR l;grind[fU,rep]
  .rename_i id H i q l;have:=bf hR l;grind[fU]
  .cases h
 obtain⟨l,p,F⟩:=G;refine fh (s:=pure _) ?_ rfl (bf hR l);simp[execOp,B,F]
theorem Sl {o:Oper} {t:TypeId} {x:Operand} {f:Nat} {D:SV} (z:o.op= .field t x f) (h:eW P o st=some D):oF P μ loc o D a w:=by
 unfold eW at h;rw[z] at h;simp at h;split at h
 .rename_i fd F I O;obtain⟨Q,S,K⟩:=Hv I;cases q:iZ P fd.type (F.drop fd.offset) with
  |none=>simp_all
  |some y=>simp[q] at h;subst h;have B:=fP hR O;obtain⟨U,B,G,H⟩:=B;obtain⟨v,R,l⟩:=Ll (w:=w) _ q ⟨G,H⟩;refine fh (by unfold execOp;rw[z]) ?_ l;simp_all[Instr.field,bM,asAgg]
 grind
theorem Iw {o:Oper} {t:TypeId} {x ix:Operand} {sv:SV} (ho:o.op= .indexAddr t x ix) (h:eW P o st=some sv):oF P μ loc o sv a w:=by
 unfold eW at h;rw[ho] at h;simp only[] at h;split at h
 .rename_i n e hu;unfold DL at h;split at h
  .rename_i s id K k i B R Q;split at h
   .rename_i O;obtain⟨S,F,hpos⟩:=O;injection h with h;subst h;have l:=bf hR Q;simp only[fU,rep] at l;obtain⟨b,hl,D⟩:=bf hR R;refine fh (s:=Instr.indexAt t (a.eval x) (a.eval ix)) (by unfold execOp;rw[ho]) (v:= .pointer (some ((⟨b,K,none⟩:Addr).add (i.toNat *s)))) ?_ ?_
    .rw[D,l];have:=lz B w;simp[Instr.indexAt,asIntOf,bM hu,Instr.sureAddr,S,F,this]
    .exact⟨b,hl,by rw[add_lit]⟩
   grind
  .rename_i s id sz j K k i B R Q;split at h
   .rename_i O;obtain⟨S,F,hpos⟩:=O;injection h with h;subst h;have l:=bf hR Q;simp only[fU,rep] at l;obtain⟨g,m,c,hl,D⟩:=bf hR R;refine fh (s:=Instr.indexAt t (a.eval x) (a.eval ix)) (by unfold execOp;rw[ho]) (v:= .pointer (some ((⟨g,j *sz+K,none⟩:Addr).add (i.toNat *s)))) ?_ ?_
    .rw[D,l];have:=lz B w;simp[Instr.indexAt,asIntOf,bM hu,Instr.sureAddr,S,F,this]
    .exact⟨g,m,c,hl,by rw[add_lit,kX]⟩
   grind
  .rename_i s cs k i B R Q;split at h
   .rename_i O;obtain⟨S,F,hpos⟩:=O;injection h with h;subst h;have l:=bf hR Q;simp only[fU,rep] at l;obtain⟨b,K,vs,D,hcs,hm⟩:=bf hR R;refine fh (s:=Instr.indexAt t (a.eval x) (a.eval ix)) (by unfold execOp;rw[ho]) (v:= .pointer (some ((⟨b,K,none⟩:Addr).add (i.toNat *s)))) ?_ ?_
    .rw[D,l];have:=lz B w;simp[Instr.indexAt,asIntOf,bM hu,Instr.sureAddr,S,F,this]
    .exact⟨b,_,_,by rw[add_lit],hcs.drop _,λq u hq=>by grind⟩
   grind
  grind
 unfold wY at h;split at h
 .rename_i e s sz xs k i hs R Q;obtain⟨hu,inf,G,B⟩:=fZ hs;split at h
  .rename_i O;obtain⟨rfl,S⟩:=O;cases hg:xs[i.toNat]? with
   |none=>simp_all
   |some y=>
    simp[hg] at h;subst h;have F:i.toNat<xs.length:=(bQ.1 hg).1;have D:=bf hR R;have l:=bf hR Q;simp only[fU,rep] at D l;obtain⟨A,c,D,hlc,hcm,V⟩:=D;rcases V with hz|⟨b,K,rfl,V⟩
    .omega
    .obtain⟨vs,hc1,Vl,hc3⟩:=Wr V hg;refine fh (s:=Instr.indexAt t (a.eval x) (a.eval ix)) (by unfold execOp;rw[ho]) (v:= .pointer (some ((⟨b,K,none⟩:Addr).add (i.toNat *s)))) ?_ ?_
     .rw[D,l];have H:i<(xs.length:Int):=by omega
      simp[Instr.indexAt,asIntOf,bM hu,S,H,sizeOf,typeInfo,G,B]
     .refine⟨b,K+i.toNat *s,vs,by rw[add_lit],hc1,hc3⟩
  grind
 .rename_i e s id k i hs R Q;obtain⟨hu,inf,G,B⟩:=fZ hs;split at h
  .rename_i e' sz xs qQ;split at h
   .rename_i O;obtain⟨rfl,S,F⟩:=O;injection h with h;subst h;have D:=bf hR R;have l:=bf hR Q;simp only[fU,rep] at D l;rw[jj (hR.obs id _ qQ)] at D;obtain⟨vs,U,hrc,_⟩:=hR.obs id _ qQ;obtain⟨g,I,z,_⟩:∃g I,loc id= .slice (some ⟨g,0,none⟩) xs.length I/\True:=by
     rcases U.2 with⟨_,e2⟩|⟨g,I,cur,e1,_⟩
     .omega
     simp_all
    refine fh (s:=Instr.indexAt t (a.eval x) (a.eval ix)) (by unfold execOp;rw[ho]) (v:= .pointer (some ((⟨g,0,none⟩:Addr).add (i.toNat *s)))) ?_ ?_
    .rw[D,l,z];have H:i<(xs.length:Int):=by omega
     simp[Instr.indexAt,asIntOf,bM hu,S,H,sizeOf,typeInfo,G,B]
    .exact⟨g,_,I,by rw[z];rfl,by rw[add_lit];simp⟩
   grind
  .rename_i e' sz k e2 s2 xs ys qQ;split at h
   .rename_i O;obtain⟨rfl,S,F⟩:=O;injection h with h;subst h;have D:=bf hR R;have l:=bf hR Q;simp only[fU,rep] at D l;obtain⟨m,us,vs,hl,_,U,_⟩:=hR.obs id _ qQ;rw[hl] at D;replace D:a.eval x=m:=D;obtain⟨g,I,z,_⟩:∃g I,m= .slice (some ⟨g,0,none⟩) xs.length I/\True:=by
     rcases U.2 with⟨_,e2⟩|⟨g,I,cur,e1,_⟩
     .omega
     simp_all
    refine fh (s:=Instr.indexAt t (a.eval x) (a.eval ix)) (by unfold execOp;rw[ho]) (v:= .pointer (some ((⟨g,0,none⟩:Addr).add (i.toNat *s)))) ?_ ?_
    .rw[D,l,z];have H:i<(xs.length:Int):=by omega
     simp[Instr.indexAt,asIntOf,bM hu,S,H,sizeOf,typeInfo,G,B]
    .exact⟨g,_,I,by rw[hl];exact z,by rw[add_lit];simp⟩
   grind
  grind
 .rename_i e s id sz lo hi' k i hs R Q;obtain⟨hu,inf,G,B⟩:=fZ hs;split at h
  .rename_i O;obtain⟨rfl,S,F⟩:=O;injection h with h;subst h;have l:=bf hR Q;simp[fU,rep] at l;obtain⟨A,n,c,A',c',z,hlo,hhi,hc',D,_,hg⟩:=bf hR R;obtain⟨g,rfl,rfl⟩:=hg af;refine fh (by unfold execOp;rw[ho]) (v:= .pointer (some ((⟨g,lo *s,none⟩:Addr).add (i.toNat *s)))) ?_ ?_
   .simp_all[Instr.indexAt,asIntOf,bM,sizeOf,typeInfo]
   .exact⟨g,_,c,by rw[z];rfl,by grind[add_lit]⟩
  grind
 .rename_i e s id n k i hs R Q;obtain⟨hu,inf,G,B⟩:=fZ hs;split at h
  .rename_i O;obtain⟨rfl,S,F⟩:=O;injection h with h;subst h;have l:=bf hR Q;simp[fU,rep] at l;obtain⟨b,z,D⟩:=bf hR R;refine fh (by unfold execOp;rw[ho]) (v:= .pointer (some ((⟨b,0,none⟩:Addr).add (i.toNat *1)))) ?_ ?_
   .have H:i<(n:Int):=by omega
    simp_all[Instr.indexAt,asIntOf,bM,sizeOf,typeInfo]
   .exact⟨b,z,by simp[add_lit]⟩
  grind
 grind
theorem Sn {o:Oper} {t:TypeId} {x K:Operand} {D:SV} (B:o.op= .index t x K) (h:eW P o st=some D):oF P μ loc o D a w:=by
 unfold eW at h;rw[B] at h;simp at h;split at h
 .rename_i s k i Q I G;split at h
  .cases z:s[i.toNat]? with
   |none=>simp_all
   |some b=>
    simp[z] at h;subst h;have H:=bf hR I;have l:=bf hR G;simp[fU,rep] at H l;refine fh (by unfold execOp;rw[B]) ?_ (by rfl);have q:=(bQ.1 z)
    obtain⟨O,F⟩:=q
    have:(⟨s.toArray⟩:ByteArray)[i.toNat]? =some b:=by rw[getElem?_pos _ _ _];show some s.toArray[i.toNat]=some b;simp[F]
    simp_all[Instr.index,asIntOf,bM]
  grind
 grind
theorem Vf {o:Oper} {t:TypeId} {x:Operand} {sv:SV} (ho:o.op= .load t x) (h:eW P o st=some sv):oF P μ loc o sv a w:=by
 have start:∀(ad:Addr),a.eval x= .pointer (some ad)->∀v,(loadVar t ad).run P w= .ok v w->∀sv,fU μ loc sv v->oF P μ loc o sv a w:=λad H v O sv hs=>fh (s:=Instr.loadAt t (a.eval x)) (by unfold execOp;rw[ho]) (v:=v) (by simp_all[Instr.loadAt,Instr.sureAddr]) hs
 unfold eW at h;rw[ho] at h;simp only[] at h;split at h
 .rename_i cs I;cases K:iZ P t cs with
  |none=>simp_all
  |some y=>simp[K] at h;subst h;obtain⟨b,l,D,H,R,hm⟩:=bf hR I;obtain⟨v,O,z⟩:=sB (w:=w) (ad:=⟨b,l,none⟩) K R (λj u B=>by rw[add_lit];exact yI (hR.xZ _ _ _ (hm j u B)) (R.2 u (aZ B)));exact start _ H v O _ z
 .rename_i cs I;cases K:iZ P t cs with
  |none=>simp_all
  |some y=>
   simp[K] at h;subst h;have hx':=bf hR I;simp only[fU,rep] at hx';obtain⟨b,l,D,H,S,Vl,hm⟩:=hx';have R:lR μ cs D:=⟨S,Vl⟩
   obtain⟨v,O,z⟩:=sB (w:=w) (ad:=⟨b,l,none⟩) K R (λj u B=>by rw[add_lit];exact yI (hR.xZ _ _ _ (hm j u B)) (R.2 u (aZ B)));exact start _ H v O _ z
 .rename_i id sz i l I;split at h
  .rename_i e sz' xs F;split at h
   .rename_i hsz;subst hsz;cases hg:xs[i]? with
    |none=>simp_all
    |some c=>cases K:iZ P t (c.drop l) with
     |none=>simp_all
     |some y=>
      simp[hg,K] at h;subst h;obtain⟨g,n,cp,V,H⟩:=bf hR I;rw[jj (hR.obs id _ F)] at V;obtain⟨D,G,hrc,_⟩:=hR.obs id _ F;obtain⟨us,S,Vl,hc3⟩:=PS hrc hg;have q:=G.cells (g:=g) (by rw[V];rfl)
      obtain⟨v,O,z⟩:=sB (w:=w) (ad:=⟨g,i *sz+l,none⟩) K (S.drop l) (λj u B=>by
       rw[wJ] at B;have:=q _ _ (hc3 _ _ B);rw[add_lit] at this⊢
       rwa[show 0+(i *sz+(l+j))=i *sz+l+j from by omega] at this)
      exact start _ H v O _ z
   grind
  .rename_i e sz' k e' s' xs ys F;split at h
   .rename_i R;obtain⟨rfl,rfl,hi,hagg⟩:=R;injection h with h;subst h;obtain⟨g,n,cp,V,H⟩:=bf hR I;obtain⟨m,us,D,Vo,hm,G,hrc,hk,h2,h3,h4,h5,h6,h7⟩:=hR.obs id _ F;have Nc:m= .slice (some ⟨g,0,none⟩) n cp:=by rw[Vo] at V;exact V
    have q:=G.cells (g:=g) (by rw[Nc];rfl);have hlt:i *sz+l<D.length:=by rw[dc hrc];have:=jV sz (show i+1<=xs.length from hi);rw[jA,Nat.one_mul] at this;have:=hk.1;omega
    obtain⟨u,B⟩:∃u,D[i *sz+l]? =some u:=⟨D[i *sz+l],aK hlt⟩
    have hcu:=q _ _ B;rw[add_lit,eO] at hcu;refine start _ H u (by simp_all[loadVar,rG]) _ ?_;refine⟨m,us,Vo,⟨_,_,_,Nc⟩,λx I=> ?_⟩;cases hy:ys[i]? with
    |none=>simp_all
    |some y=>cases y with
     |none=>grind
     |some zs=>grind
   grind
  grind
 .rename_i id l I;obtain⟨b,V,H⟩:=bf hR I;split at h
  .rename_i bt cells F;obtain⟨b',D,hl',hnF,U,C8,hss,h1⟩:=hR.obs id _ F;rw[V] at hl';simp only[A7,aW,A8,eH] at hl';subst hl';have hcell:∀j,w.cell? ⟨b,j,none⟩=D[j]? :=λj=>by rw[cell_of_row w b j D.toArray bt _ U];simp
   split at h
   .split at h
    .obtain⟨v,hv',O⟩:=NH hss h;simp_all[loadVar,rG]
    grind
   .split at h
    .rename_i n hsz;split at h
     .have Q:=D0 (DZ hss l) n;have hlen:=qk hss;have Vo:((D.drop l).take n).length=n:=aH;have O:=A5 (P:=P) w ⟨b,l,none⟩ ((D.drop l).take n) (λj v hj=>by simp_all[add_lit,oR]);cases hp:mR ((cells.drop l).take n) with
      |none=>
       simp[hp,cB] at h;obtain⟨ks,hk,rfl⟩:=h;refine start _ H (.agg ((D.drop l).take n).toArray) ?_ _ ?_
       .simp_all[loadVar,rG,lz]
       .exact⟨_,rfl,RA hk Q,λu B=>h1 u (ji (vG B))⟩
      |some cs=>
       simp[hp] at h;subst h;refine start _ H (.agg ((D.drop l).take n).toArray) ?_ _ ?_
       .simp_all[loadVar,rG,lz]
       .exact⟨_,rfl,Hj hp Q,λu B=>h1 u (ji (vG B))⟩
     grind
    grind
   grind
  grind
 grind
theorem jD {q:Option Operand} {B:Option SV} {d y r:Nat} (l:nX P st q=some B) (h:iq B d y=some r) (code:BoundsCode):
  (q=none/\r=d)\/∃x,q=some x/\(Instr.sliceBound (a.eval x) y code).run P w= .ok r w/\r<=y:=by
 cases q with
 |none=>simp[nX,aW] at l;subst l;simp[iq] at h;simp_all
 |some x=>simp[nX] at l;cases z:bD P 0 st x with
  |none=>simp_all
  |some F=>simp[z] at l;subst l;have D:=bf hR z;cases F with
   |pv v=>cases v with
    |int k i=>
     simp only[iq] at h;split at h
     .injection h with h;subst h;simp[fU,rep] at D;simp_all[Instr.sliceBound,asIntOf]
     grind
    |_=>simp[iq] at h
   |_=>simp[iq] at h
omit hR in
theorem EM (s:List UInt8) (l h:Nat) (z:l<=h) (q:h<=s.length):(⟨s.toArray⟩:ByteArray).extract l h=⟨((s.take h).drop l).toArray⟩:=by apply ByteArray.ext;simp[ByteArray.data_extract,List.extract_eq_take_drop,G8]
theorem PU {t e:TypeId} {s:Nat} {x:Operand} {V G:Option Operand} {lv S:Option SV} {A:Option Addr} {m c B l:Nat} (hu:P.underlying t=some (.slice e)) (I:lJ P e=some s) (hxv:a.eval x= .slice A m c) (hlc:m<=c)
  (H:nX P st V=some lv) (z:nX P st G=some S) (q:iq S m m=some B) (D:iq lv 0 B=some l):
  (Instr.sliceAt t (a.eval x) (V.map a.eval) (G.map a.eval) none).run P w= .ok (.slice (if c=l then A else A.map (·.add (l *s))) (B-l) (c-l)) w:=by
 obtain⟨inf,R,hs⟩:∃i,P.info? e=some i/\i.size=s:=by unfold lJ at I;simp_all
 have Q:B<=m:=by rcases jD hR z q .sliceAcap with⟨_,e⟩|⟨_,_,_,e⟩<;>omega
 have hlh:l<=B:=by rcases jD hR H D .sliceB with⟨_,e⟩|⟨_,_,_,e⟩<;>omega
 have F:G=none/\B=m\/∃y,G=some y/\(Instr.sliceBound (a.eval y) c .sliceAcap).run P w= .ok B w:=by cases G with
  |none=>
   rcases jD hR z q .sliceAcap with⟨_,e⟩|⟨_,e,_⟩
   .simp_all
   grind
  |some y=>refine .inr ⟨y,rfl,?_⟩;simp[nX] at z;cases U:bD P 0 st y with
   |none=>simp_all
   |some O=>simp[U] at z;subst z;have K:=bf hR U;cases O with
    |pv v=>cases v with
     |int k i=>
      simp only[iq] at q;split at q
      .simp[fU,rep] at K
       have:i<=(c):=af
       simp_all[Instr.sliceBound,asIntOf]
      simp_all
     |_=>simp[iq] at q
    |_=>simp[iq] at q
 rcases F with⟨rfl,rfl⟩|⟨xh,rfl,rh⟩<;>
 rcases jD hR H D .sliceB with⟨rfl,rfl⟩|⟨xl,rfl,rl,_⟩<;>
 simp[Instr.sliceAt,Instr.slice,bM _,Instr.sliceBounds,sizeOf,typeInfo, *]
theorem MT {K I:Option Operand} {H G:Option SV} {m q l:Nat} (F:nX P st K=some H) (D:nX P st I=some G) (z:iq G m m=some q) (B:iq H 0 q=some l):q<=m/\l<=q:=by
 constructor
 .rcases jD hR D z .sliceAcap with⟨_,e⟩|⟨_,_,_,e⟩<;>omega
 .rcases jD hR F B .sliceB with⟨_,e⟩|⟨_,_,_,e⟩<;>omega
theorem Sq {o:Oper} {t:TypeId} {x:Operand} {lo hi:Option Operand} {sv:SV} (ho:o.op= .slice t x lo hi none) (h:eW P o st=some sv):oF P μ loc o sv a w:=by
 unfold eW at h;rw[ho] at h;simp only[] at h;split at h
 .rename_i s lv hv R V F D;split at h
  .rename_i H B;cases z:iq lv 0 H with
   |none=>simp_all
   |some l=>
    simp[z] at h;subst h;have G:=bf hR V;simp only[fU,rep] at G;have I:H<=s.length:=by rcases jD hR D B .sliceAlen with⟨_,e⟩|⟨_,_,_,e⟩<;>omega
    have Q:l<=H:=by rcases jD hR F z .sliceB with⟨_,e⟩|⟨_,_,_,e⟩<;>omega
    refine fh (s:=Instr.sliceAt t (a.eval x) (lo.map a.eval) (hi.map a.eval) none) (by unfold execOp;simp_all) (v:= .string ⟨((s.take H).drop l).toArray⟩) ?_ (by rfl);rw[G];have U:(⟨s.toArray⟩:ByteArray).size=s.length:=rfl;have hex:=EM s l H Q I;rcases jD hR D B .sliceAlen with⟨rfl,rfl⟩|⟨xh,rfl,rh,_⟩<;>
    rcases jD hR F z .sliceB with⟨rfl,rfl⟩|⟨xl,rfl,rl,_⟩<;>
    simp_all[Instr.sliceAt,Instr.slice,bM R,Instr.sliceBounds]
  grind
 .rename_i e sz xs lv hv R V F D;split at h
  .rename_i e' s H hs B;obtain⟨q,inf,O,U⟩:=fZ hs;rw[R] at q;injection q with q;injection q with q;subst q;split at h
   .rename_i e;subst e;cases z:iq lv 0 H with
    |none=>simp_all
    |some l=>
     simp[z] at h;subst h;have G:=bf hR V;simp only[fU,rep] at G;obtain⟨A,c,G,hlc,hcm,S⟩:=G;have I:H<=xs.length:=by rcases jD hR D B .sliceAcap with⟨_,e⟩|⟨_,_,_,e⟩<;>omega
     have Q:l<=H:=by rcases jD hR F z .sliceB with⟨_,e⟩|⟨_,_,_,e⟩<;>omega
     refine fh (s:=Instr.sliceAt t (a.eval x) (lo.map a.eval) (hi.map a.eval) none) (by unfold execOp;simp_all)
      (v:= .slice (if c=l then A else A.map (·.add (l *s))) (H-l) (c-l)) ?_ ?_
     .grind[PU,lJ]
     .show rep μ (.dD s ((xs.take H).drop l)) _;rw[rep];have hlen:((xs.take H).drop l).length=H-l:=aH;refine⟨_,_,by rw[hlen],by omega,by omega,?_⟩;rcases S with hz|⟨b,off,rfl,S⟩
      .omega
      .by_cases hc:c=l
       .omega
       .refine .inr ⟨b,off+l *s,by rw[au hc];simp[add_lit],?_⟩;simp_all[TG,TJ]
   grind
  grind
 .rename_i e id lv hv R V F D;split at h
  .rename_i e' s e2 sz xs hs qQ;obtain⟨q,inf,O,U⟩:=fZ hs;rw[R] at q;injection q with q;injection q with q;subst q;split at h
   .rename_i H B;split at h
    .rename_i e;subst e;cases z:iq lv 0 H with
     |none=>simp_all
     |some l=>
      simp[z] at h;subst h;have G:a.eval x=loc id:=(bf hR V:a.eval x=fS (loc id)).trans (jj (hR.obs id _ qQ));obtain⟨I,Q⟩:=MT hR F D B z;obtain⟨vs,hown,hrc,_⟩:=hR.obs id _ qQ;obtain⟨A,c,K,hlc,hA⟩:∃A c,loc id= .slice A xs.length c/\xs.length<=c/\(0<xs.length->∃g,A=some ⟨g,0,none⟩):=by
       rcases hown.2 with⟨e1,e2⟩|⟨g,cap,cur,e1,h2,h3,h4⟩
       .simp_all
       grind
      refine fh (s:=Instr.sliceAt t (a.eval x) (lo.map a.eval) (hi.map a.eval) none) (by unfold execOp;simp_all)
       (v:= .slice (if c=l then A else A.map (·.add (l *s))) (H-l) (c-l)) (PU hR R (by rw[lJ,O];grind) (G.trans K) hlc F D B z) ?_
      refine⟨A,_,c,_,_,K,Q,I,by omega,rfl,λe=> ?_,λhlt=> ?_⟩
      .simp_all[add_zero']
      .obtain⟨g,rfl⟩:=hA af;refine⟨g,rfl,?_⟩;rw[au af];simp[add_lit]
    grind
   grind
  grind
 .rename_i e id sz a' b' lv hv R V F D;split at h
  .rename_i e' s H hs B;obtain⟨q,inf,O,U⟩:=fZ hs;rw[R] at q;injection q with q;injection q with q;subst q;split at h
   .rename_i e;subst e;cases z:iq lv 0 H with
    |none=>simp_all
    |some l=>
     simp[z] at h;subst h;obtain⟨A,n,c,A',c',K,Xu,Vo,hc',G,hz,hg⟩:=bf hR V;obtain⟨I,Q⟩:=MT hR F D B z;refine fh (by unfold execOp;simp_all)
      (v:= .slice (if c'=l then A' else A'.map (·.add (l *s))) _ _) (PU hR R (by rw[lJ];grind) G hc' F D B z) ?_
     refine⟨A,_,c,(if c'=l then A' else A'.map (·.add (l *s))),c'-l,K,by omega,by omega,by omega,by grind,λe=> ?_,λhlt=> ?_⟩
     .simp_all[add_zero']
     .obtain⟨g,rfl,rfl⟩:=hg af;rw[au af];simp[add_lit,jA]
   grind
  grind
 grind
theorem Mt {o:Oper} {x:Operand} {i:Nat} {H:SV} (z:o.op= .extract x i) (h:eW P o st=some H):oF P μ loc o H a w:=by
 unfold eW at h;rw[z] at h;simp at h;split at h
 .rename_i I F;cases G:I[i]? with
  |none=>simp_all
  |some y=>simp[G] at h;subst h;have q:=bf hR F;obtain⟨Q,q,l⟩:=q;obtain⟨u,K,B⟩:=s7 l G;refine fh (by unfold execOp;rw[z]) ?_ B;simp_all[Instr.extract]
 .rename_i v b F;obtain⟨u,O,q,B,D⟩:=bf hR F;split at h
  .injection h with h;subst h;refine fh (by unfold execOp;rw[z]) ?_ B;rw[q];rfl
  .injection h with h;subst h;refine fh (by unfold execOp;rw[z]) ?_ D;rw[q];rfl
  grind
 grind
omit hR in
theorem Cj {F:List TypeId} {l:List Value} {z:List AV} (h:oc P F l=some z):lR μ z l:=by induction F generalizing l z with
 |nil=>cases l with
  |nil=>simp[oc] at h;subst h;exact⟨dA,ai⟩
  |cons v l=>simp[oc] at h
 |cons t F H=>cases l with
  |nil=>simp[oc] at h
  |cons v l=>
   simp only[oc] at h;split at h
   .rename_i x xs q D;injection h with h;subst h;have G:=xg (P:=P) (μ:=μ) q;have k:=H D;refine⟨cE G k.1,λu B=> ?_⟩;rcases aJ.1 B with rfl|B
    .unfold ofConst at q;split at q<;>first|rfl|(cases q)
    .exact k.2 u B
   .cases h
omit hR in
theorem Ug {F:List TypeId} {q:List Value} {B:List AV} (h:oc P F q=some B) {k s:Nat} (z:B[k]? =some (.dD s [])):∃v,q[k]? =some v/\v= .slice none 0 0:=by induction F generalizing q B k with
 |nil=>cases q with
  |nil=>simp[oc] at h;subst h;simp at z
  |cons v q=>simp[oc] at h
 |cons t F I=>cases q with
  |nil=>simp[oc] at h
  |cons v q=>
   simp only[oc] at h;split at h
   .rename_i x xs l D;injection h with h;subst h;cases k with
    |zero=>
     simp at z;subst z;refine⟨v,rfl,?_⟩;unfold ofConst at l;split at l
     .cases l
     .cases l
     .cases l
     .rfl
     .cases l
     .cases l
     .split at l<;>cases l
     .cases l
    |succ k=>obtain⟨K,G,H⟩:=I D (by simpa using z);exact⟨K,by simpa using G,H⟩
   .cases h
omit hR in
theorem TE {z:List AV}:∀{k:Nat} {q:List Value} {u:Value} {a:AV},cM μ z q->q[k]? =some u->rep μ a u->cM μ (z.set k a) q:=by induction z with
 |nil=>intro k q u a h l _;simp only[cM] at h;subst h;simp at l
 |cons c z H=>intro k q u a h l D;obtain⟨v,F,rfl,G,B⟩:=h;cases k with
  |zero=>simp at l;subst l;exact⟨v,F,rfl,D,B⟩
  |succ k=>exact⟨v,F,rfl,G,H B (by simpa using l) D⟩
omit hR in
theorem oA {t:TypeId} {z:List AV} (h:zeroCells P t=some z):∃i v,P.info? t=some i/\i.zero=some v/\lR μ z v.cells.toList:=by
 unfold zeroCells at h;split at h
 .rename_i i l;split at h
  .rename_i v q;exact⟨i,v,l,q,Cj h⟩
  .cases h
 .cases h
theorem xV {ty:Nat->TypeId} {l:List (Nat×Operand)} {q:List (Nat×AV)} (h:partsOf P ty st l=some q):
  q.map (·.1)=l.map (·.1)/\cM μ (q.map (·.2)) (l.map λp=>a.eval p.2):=by
 induction l generalizing q with
 |nil=>simp[partsOf] at h;subst h;exact⟨rfl,dA⟩
 |cons p l z=>grind[partsOf,cE,fP]
omit hR in
theorem Ib (z:List Value):∀(l:List Value) (q k:Nat),q+k+l.length<=z.length->
  ((l.zipIdx k).foldl (λ(B:Array Value) (p:Value×Nat)=>B.setIfInBounds (q+p.2) p.1) z.toArray)=(z.take (q+k)++l++z.drop (q+k+l.length)).toArray:=by
 intro l;induction l generalizing z with
 |nil=>intro q k h;simp
 |cons v l F=>intro q k h;simp only[List.zipIdx_cons,gJ];simp only[bp] at h;have D:z.toArray.setIfInBounds (q+k) v=(z.set (q+k) v).toArray:=ai;rw[D,F (z.set (q+k) v) q (k+1) aH];congr 1;rw[<-kX,List.take_succ_eq_append_getElem aH];simp only[List.getElem_set_self,G9 (aU _),bp];rw[He af];simp only[eo,gi,dK];congr 4;omega
omit hR in
theorem DH {place:Nat->Option (Nat×Nat)} {cells S:List AV} {H:List Value} {G:List (Nat×AV)} {us:List (Nat×Value)}
  (h:yd place cells G=some S) (Q:lR μ cells H) (F:G.map (·.1)=us.map (·.1)) (O:cM μ (G.map (·.2)) (us.map (·.2))) (U:∀p∈G,∀x,p.2≠ .iQ x):
  ∃ws:List Value,Instr.fill place H.toArray us=some ws.toArray/\lR μ S ws:=by
 induction G generalizing cells H us with
 |nil=>cases us with
  |nil=>simp[yd] at h;subst h;exact⟨H,by simp[Instr.fill],Q⟩
  |cons u us=>simp at F
 |cons p G ih=>cases us with
  |nil=>simp at F
  |cons u us=>
   obtain⟨i,x⟩:=p;obtain⟨i',y⟩:=u;simp only[bw,cS] at F;obtain⟨rfl,F⟩:=F;simp only[bw,cM] at O;obtain⟨u',us',e,hx,O⟩:=O;simp only[cS] at e;obtain⟨rfl,rfl⟩:=e;simp only[yd] at h;split at h
   .cases h
   .rename_i l size R;split at h
    .rename_i B;have K:=NI hx (λz=>U (i,x) ai z);have q:y.cells.size=size:=by
      have:=K.length;simpa[B.1] using this
     have hvl:=Q.length;have D:=((Q.take l).append K).append (Q.drop (l+size));obtain⟨ws,hw,hr⟩:=ih h D F O (λp hp=>U p (by simp[hp]));refine⟨ws,?_,hr⟩;simp only[Instr.fill,R];have V:¬(l+y.cells.size>H.toArray.size):=aH;rw[au (by simp[q];omega)];rw[<-hw];congr 1;have I:=Ib H y.cells.toList l 0 aH;simp only[mb,tG,q] at I;rw[<-I,<-Array.foldl_toList,Rr]
    .cases h
omit hR in
theorem run_places (l:List Field) (q:l.all (λf=>(lJ P f.type).isSome)=true):
  (l.mapM (λf=>Functor.map (Prod.mk f.offset) (sizeOf f.type)):Sem (List (Nat×Nat))).run P w= .ok (l.map λf=>(f.offset,(lJ P f.type).getD 0)) w:=by
 induction l with
 |nil=>rfl
 |cons f l B=>simp only[jC,aS] at q;obtain⟨n,z⟩:=oQ.1 q.1;simp[tH,lz z,z,B q.2]
omit hR in
theorem H8 {t:List TypeId}:∀{F:List Nat} {z B:List AV} {q:List Value},oc P t q=some z->FD F z=some B->lR μ B q
 |[],z,B,q,h,l=>by simp only[FD,aW] at l;subst l;exact Cj h
 |k::F,z,B,q,h,l=>by
  simp only[FD] at l;split at l
  .rename_i s H;obtain⟨K,G,rfl⟩:=cB.1 l;have D:=H8 h G;obtain⟨v,I,e⟩:=Ug h H;subst e;refine⟨?_,D.2⟩;have:=TE D.1 I (a:= .tR) (by simp[rep]);exact this
  .cases l
omit hR in
theorem N2 {h:Hint} {d:Option Nat} {t:TypeId} {z:List AV} (q:N0 P h d t=some z):∃i v,P.info? t=some i/\i.zero=some v/\lR μ z v.cells.toList:=by
 unfold N0 at q;split at q
 .rename_i H G;obtain⟨I,l,B⟩:=dm.1 q;unfold zeroCells at l;split at l
  .rename_i i D;split at l
   .rename_i v F;exact⟨i,v,D,F,H8 l B⟩
   .cases l
  .cases l
 .exact oA q
theorem C7 {o:Oper} {V:Option (List AV)} {t:TypeId} {l:Array (Nat×Operand)} {U:SV} (G:∀z,V=some z->∃i v,P.info? t=some i/\i.zero=some v/\lR μ z v.cells.toList) (S:o.op= .build t l) (h:zD P V t l st=some U):oF P μ loc o U a w:=by
 unfold zD at h;split at h
 .rename_i fs hu;split at h
  .rename_i z Q B;split at h
   .rename_i q;obtain⟨q,K⟩:=q;cases D:yd (pN P t) z Q with
    |none=>simp_all
    |some R=>
     simp[D] at h;subst h;obtain⟨i,v,hi,hv,I⟩:=G z rfl;obtain⟨h1,h2⟩:=xV hR B
     obtain⟨ws,hw,F⟩:=DH (us:=l.toList.map λp=>(p.1,a.eval p.2)) D I (by simp_all) (by simp_all[fo,nx]) (λp O x e=>by
      have:=cH.1 q p O
      rw[e] at this;cases this)
     refine fh (s:=Instr.build t (l.map λp=>(p.1,a.eval p.2))) (by unfold execOp;rw[S]) (v:= .agg ws.toArray) ?_ ?_
     .obtain⟨H⟩:=fs;have Ul:=run_places (w:=w) H K;have hpe:(λx=>Option.map (λf:Field=>(f.offset,(lJ P f.type).getD 0)) H[x]?)=pN P t:=by
       funext x;simp only[pN,wU,hu,Hf];cases hx:H[x]? with
       |none=>rfl
       |some fd=>grind[Option.isSome_iff_exists,List.all_eq_true,List.mem_of_getElem?]
      simp_all[Array.toArray_toList,Instr.build,zeroValue,typeInfo,bM]
     .show rep μ (.agg R) _;exact⟨ws,rfl,F.1,F.2⟩
   grind
  grind
 .split at h
  .rename_i z Q s B hs;split at h
   .rename_i q;cases D:yd (λi=>some (i *s,s)) z Q with
    |none=>simp_all
    |some R=>
     simp[D] at h;subst h;obtain⟨i,v,hi,hv,I⟩:=G z rfl;obtain⟨h1,h2⟩:=xV hR B
     obtain⟨ws,hw,F⟩:=DH (us:=l.toList.map λp=>(p.1,a.eval p.2)) D I (by simp_all) (by simp_all[nx]) (λp O x e=>by
      have:=cH.1 q p O
      rw[e] at this;cases this)
     refine fh (by unfold execOp;rw[S]) (v:= .agg ws.toArray) ?_ ?_
     .simp_all[Instr.build,zeroValue,typeInfo,bM,lz]
     .exact⟨ws,rfl,F.1,F.2⟩
   grind
  grind
 grind
theorem Sk {o:Oper} {B:Hint} {t:TypeId} {l:Array (Nat×Operand)} {q:SV} (D:o.op= .build t l) (h:zD P (N0 P B o.dst t) t l st=some q):oF P μ loc o q a w:=
 C7 hR (λz F=>N2 F) D h
omit hR in
theorem Mp {l:TypeDesc} {V:TypeId} (Q:P.underlying V=some l) {key:AV} {O:Value} (I:rep μ key O) (z:kg P V key=true):∀{G:List AV} {dM:List MapEntry} {r:Option Nat} (i:Nat),cM μ G (dM.map (·.key))->qD key G=some r->
  (match r with
  |some j=>∃e,dM[j]? =some e/\Instr.findNow l O dM i=some (some (i+j,e.val))/\∃x,G[j]? =some x/\w5 key x=some true
  |none=>Instr.findNow l O dM i=some none):=by
 intro G;induction G with
 |nil=>
  intro dM r i h q;simp only[qD,aW] at q;subst q;rw[cM] at h
  have:dM=[]:=by simpa using h
  subst this;rfl
 |cons x G ih=>intro dM r i h q;rw[cM] at h;obtain⟨u,us,e,D,F⟩:=h;cases dM with
  |nil=>simp at e
  |cons S dM=>
   simp only[bw,cS] at e;obtain⟨rfl,rfl⟩:=e;have same:∀b,w5 key x=some b->Instr.sameNow l O S.key=some b:=by
    intro b H;unfold w5 at H;split at H
    .rename_i s t;rw[rep] at I D;rw[I,D];simp only[kg,Q] at z;cases l<;>simp at z;simp only[Instr.sameNow,ad7];exact H
    .rename_i k s k' t;rw[rep] at I D;rw[I,D];simp only[kg,Q] at z;cases l<;>simp at z;simp only[Instr.sameNow];exact H
    .rename_i s t;rw[rep] at I D;rw[I,D];simp only[kg,Q] at z;cases l<;>simp at z;simp only[Instr.sameNow];exact H
    .cases H
   simp only[qD] at q;split at q
   .rename_i K;injection q with q;subst q;have B:=same _ K;exact⟨S,rfl,by simp only[Instr.findNow,B];simp,x,rfl,K⟩
   .rename_i K;have B:=same _ K;cases R:qD key G with
    |none=>simp[R] at q
    |some r'=>simp[R] at q;subst q;have U:=ih (i+1) F R;cases r' with
     |none=>simp only[A9,Instr.findNow,B];exact U
     |some j=>obtain⟨e,he,q,D⟩:=U;exact⟨e,by simpa using he,by simp only[Instr.findNow,B,q];congr 3;omega,by simpa using D⟩
   .cases q
omit hR in
theorem jk {B:TypeId} {key:AV} {D:Value} (q:rep μ key D) (l:kg P B key=true) (b:Bool) (w:World):(Instr.checkKey b 10000 B D).run P w= .ok () w:=by
 have key:∀n,(Instr.checkKey b (n+1) B D).run P w= .ok () w:=by
  intro n;unfold kg at l;split at l
  .rename_i z;rw[rep] at q;subst q;simp[Instr.checkKey,bM z]
  .rename_i z;rw[rep] at q;subst q;simp[Instr.checkKey,bM z]
  .rename_i z;rw[rep] at q;subst q;simp[Instr.checkKey,bM z]
  .cases l
 exact key 9999
omit hR in
theorem VN {z:TypeId} {key:AV} (l:kg P z key=true):∃q,P.underlying z=some q:=by
 unfold kg at l;split at l
 .exact⟨_, ‹_›⟩
 .exact⟨_, ‹_›⟩
 .exact⟨_, ‹_›⟩
 .cases l
omit hR in
theorem pe {B:TypeId} {key:AV} {D:Value} (I:rep μ key D) (l:kg P B key=true) {ks:List AV} {dM:List MapEntry} {r:Option Nat} (h:cM μ ks (dM.map (·.key))) (H:qD key ks=some r) (w:World):
  match r with
  |some j=>∃e,dM[j]? =some e/\(Instr.findKey B D dM).run P w= .ok (some (j,e.val)) w/\∃x,ks[j]? =some x/\w5 key x=some true
  |none=>(Instr.findKey B D dM).run P w= .ok none w:=by
 obtain⟨F,z⟩:=VN l;have q:=Mp z I l 0 h H;cases r with
 |none=>simp only[] at q⊢;simp[Instr.findKey,bM z,q]
 |some j=>obtain⟨e,G,K,O⟩:=q;exact⟨e,G,by simp[Instr.findKey,bM z,K],O⟩
omit hR in
theorem Ck {t:TypeId} {z:AV} (h:qq P t=some z) (w:World):∃v,(zeroValue t).run P w= .ok v w/\rep μ z v:=by
 unfold qq at h;split at h
 .rename_i i G;have l:∀v,i.zero=some v->(zeroValue t).run P w= .ok v w:=λv H=>by simp[zeroValue,typeInfo,G,H]
  split at h
  .rename_i D B;cases q:oc P (td P 8 t) D.toList with
   |none=>simp[q] at h
   |some I=>simp[q] at h;subst h;have F:=Cj (μ:=μ) q;refine⟨_,l _ B,?_⟩;rw[rep];exact⟨D.toList,by simp,F.1,F.2⟩
  .rename_i v _ B;exact⟨v,l v B,xg h⟩
  .cases h
 .cases h
theorem OJ {o:Oper} {t:TypeId} {x k:Operand} {ok:Bool} {sv:SV} (ho:o.op= .lookup t x k ok) (h:eW P o st=some sv):oF P μ loc o sv a w:=by
 unfold eW at h;rw[ho] at h;simp only[] at h;split at h
 .rename_i kt et hu;split at h
  .rename_i ks key hx hk;cases l:(ok&&kg P kt key&&(qq P et).isSome) with
   |false=>simp_all
   |true=>
    simp only[l,ak,cB] at h;obtain⟨r,U,rfl⟩:=h;simp only[aS] at l;obtain⟨⟨hok1,l⟩,hzz⟩:=l;subst hok1;have q:=fP hR hk;obtain⟨sx,R,D⟩:=dm.1 hx;unfold HG at D;split at D
    .rename_i id;split at D
     .rename_i k' e' sz' ks' vs' qQ;injection D with D;subst D;have K:a.eval x=fS (loc id):=bf hR R;obtain⟨b,dM,Q,us,hl,_,V,_,h1,h2,h3,h4,h5,_⟩:=hR.obs id _ qQ;have K:a.eval x= .map (some b):=by rw[K,hl];rfl
      have B:=pe q l h1 U w;have I:∀y,(Instr.lookup t (a.eval x) (a.eval k) true).run P w= .ok (.tuple #[y, .bool r.isSome]) w->oF P μ loc o (.two .any (.pv (.bool r.isSome))) a w:=λy hr=>fh (s:=Instr.lookup t (a.eval x) (a.eval k) true) (by unfold execOp;rw[ho]) hr ⟨y,_,rfl,trivial,by simp[fU,rep]⟩
      cases r with
      |none=>simp only[] at B;obtain⟨z,S⟩:=oQ.1 hzz;obtain⟨zv,H,_⟩:=Ck (μ:=μ) S w;refine I zv ?_;rw[K];simp[Instr.lookup,bM hu,gU V,jk q l,B,H]
      |some j=>obtain⟨e,he,G,_⟩:=B;refine I e.val ?_;rw[K];simp[Instr.lookup,bM hu,gU V,jk q l,G]
     simp_all
    simp_all
  split at h
  .rename_i ks vs key hx hk;cases l:kg P kt key with
   |false=>simp_all
   |true=>
    simp only[l,ak] at h;have q:=fP hR hk;obtain⟨sx,R,D⟩:=dm.1 hx;have hm:=KB hR D (bf hR R);have I:∀(y:AV) (b:Bool) (O:Value),rep μ y O->rep _ (found ok y b) (if ok=true then .tuple #[O, .bool b] else O):=λy b O hy=>by cases ok with
     |false=>exact hy
     |true=>exact⟨_,rfl,cE hy (cE (by simp[rep]) dA)⟩
    have run:∀(y) (b) (O),rep _ y O->(Instr.lookup t _ _ _).run P w= .ok _ w->oF P _ loc o (.pv _) a w:=λy b O hy hr=>fh (by unfold execOp;rw[ho]) hr (I y b _ hy)
    unfold VX at h;rcases hm with⟨K,rfl,rfl⟩|⟨b,dM,Q,K,V,h1,h2⟩
    .simp[qD] at h;cases S:qq P et with
     |none=>simp_all
     |some z=>simp[S] at h;subst h;obtain⟨zv,H,F⟩:=Ck S w;refine run z _ _ F ?_;have B:=pe q l (ks:=[]) (dM:=[]) (by rfl) rfl w;rw[K];simp[Instr.lookup,bM hu,jk q l,B,H]
    .cases U:qD key ks with
     |none=>simp_all
     |some r=>have B:=pe q l h1 U w;cases r with
      |none=>simp[U] at h;cases S:qq P et with
       |none=>simp_all
       |some z=>simp[S] at h;subst h;obtain⟨zv,H,F⟩:=Ck S w;refine run z _ _ F ?_;rw[K];simp[Instr.lookup,bM hu,gU V,jk q l,B,H]
      |some j=>simp[U] at h;cases hg:vs[j]? with
       |none=>simp_all
       |some y=>
        simp[hg] at h;subst h;obtain⟨e,he,G,_⟩:=B;obtain⟨O,Re,hyr⟩:=s7 h2 hg;have :=by
         have he' :=by simpa using he
         simp[he'] at Re;exact Re.symm
        subst this;refine run y _ _ hyr ?_;rw[K];simp[Instr.lookup,bM hu,gU V,jk q l,G]
  grind
 grind
theorem OL {o:Oper} {t:TypeId} {x H:Operand} {lo D:Option Operand} {I:SV} (V:o.op= .slice t x lo D (some H)) (h:eW P o st=some I):oF P μ loc o I a w:=by
 unfold eW at h;rw[V] at h;simp only[Xl] at h;split at h
 rotate_left
 .cases h
 rename_i D;split at h
 .rename_i id hx;split at h
  .rename_i Q sz xs e s ka va kb vb q hs R U;split at h
   .injection h with h;subst h;obtain⟨hu,inf,G,hsz⟩:=fZ hs;have hxv :=(bf hR hx).trans (jj (hR.obs _ _ q));have B:=bf hR R;have F:=bf hR U;simp[fU,rep] at B F;obtain⟨vs,z,hrc,_⟩:=hR.obs _ _ q;obtain⟨A,c,l,S,hA⟩:∃A c,loc id= .slice A xs.length c/\xs.length<=c/\(A.map (·.add (0 *s))=A):=by
     rcases z.2 with⟨e1,Q⟩|⟨g,K,O,e1,h2,h3,h4⟩
     .simp_all
     grind[add_zero']
    refine fh (s:=Instr.sliceAt t (a.eval x) (none) (some (a.eval D)) (some (a.eval H))) (by unfold execOp;simp_all) ?_ ⟨A,_,c,l,rfl⟩;simp_all[Instr.sliceAt,Instr.slice,bM,Instr.sliceBounds,Instr.sliceBound,asIntOf,sizeOf,typeInfo]
   grind
  grind
 grind
theorem wv {o:Oper} {B:SV} (h:eW P o st=some B):oF P μ loc o B a w:=by
 have l:=h;unfold eW at l;split at l
 .grind[DK]
 .rename_i x q;exact DK hR (.inr q) l
 .grind[Vg]
 .grind[Zx]
 .grind[abG]
 .grind[Ms]
 .grind[HC]
 .grind[Kh]
 .grind[Iv]
 .grind[Sl]
 .grind[Iw]
 .grind[Sn]
 .grind[Vf]
 .grind[Sq]
 .grind[OL]
 .grind[Mt]
 .grind[OJ]
 .rename_i q;exact C7 hR (λz D=>oA D) q af
 simp_all
end
end
