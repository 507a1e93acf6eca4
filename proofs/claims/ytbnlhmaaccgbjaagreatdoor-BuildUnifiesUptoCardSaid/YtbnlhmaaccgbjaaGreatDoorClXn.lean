/- The least well-typed feature structure above one (the progra. -/
import Derived.Test.YtbnlhmaaccgbjaaGreatDoorClXj
set_option linter.all false
namespace Go.Proofs.YtbnlhmaaccgbjaaGreatDoor.cl.pf
open Go Go.AM
def Ng {N k:Nat} (h:k<N):(List.range N).idxOf k=k:=vU List.nodup_range (uQ h)
def DA {T F:Nat} {g:FSt} (G:0<g.aA.length) (z:GO T F (oP g) g.aA.length) (hn:∀x∈g.aA,∀a∈x.cu,0<=a.To) (L:kB (oP g) g.aA.length 0=List.range g.aA.length):Can T F g:=by
 refine⟨G,z,?_⟩;obtain⟨l⟩:=g;unfold nt;rw[L];congr 1;apply kZ;intro i;rw[dN];by_cases D:i<l.length
 .rw[uQ D,aK _];congr 1;have e1:rE _ i=l[i].dU:=Ao _;have q:kE _ i=scN l[i]:=wD _;show l[i]=(⟨rE _ i,(kE _ i).map _⟩)
  rw[e1,q];unfold scN;rw[fo]
  have:l[i].cu=l[i].cu.map ((λp:Int×Nat=>(⟨p.1,((List.range l.length).idxOf p.2)⟩))∘λa=>(a.bN,a.To.toNat)):=by
   conv=>lhs;rw[<-nH l[i].cu]
   refine gY λa w=> ?_
   have I:=hn _ (cG _) a w;have K :=z.bd i D _ (by show _∈kE _ _;rw[q];exact aD.2 ⟨a,w,rfl⟩);show a=⟨_,_⟩
   rw[Ng K];obtain⟨x,y⟩:=a;simp at I⊢;congr 1;omega
  exact aP (Node.mk _) this
 simp_all
def AT (f:FSt) (tl:List Int):FSt:=⟨List.zipWith (λx t=>⟨t,x.cu⟩) f.aA tl⟩
section
variable {f:FSt} {tl:List Int} (hl:tl.length=f.aA.length)
include hl
theorem xq:(AT f tl).aA.length=f.aA.length:=by show(List.zipWith _ _ _).length=_;simp_all
theorem Fw {i:Nat} (l:i<f.aA.length):(AT f tl).aA[i]? =some ⟨tl.getD i 0,f.aA[i].cu⟩:=by show(List.zipWith _ _ _)[i]? =_;simp_all
theorem BY:kE (AT f tl)=kE f:=by
 funext i;by_cases l:i<f.aA.length
 .unfold kE;rw[Fw hl l,aK _];rfl
 grind[Yo,AT]
theorem GH {i:Nat} (l:i<f.aA.length):rE (AT f tl) i=tl.getD i 0:=by unfold rE;rw[Fw hl l]
theorem Can.AT {T F:Nat} (h:Can T F f) {D:Nat} (ht:∀i,i<f.aA.length->0<=tl.getD i 0/\tl.getD i 0<(D:Int)):Can D F (AT f tl):=by
 have w:=xq hl;have q:=BY hl;refine DA (by rw[w];exact h.ne) ?_ ?_ ?_
 .rw[w];refine⟨?_,?_,?_,λi l=> ?_⟩
  .show Bd (kE _) _;rw[q];exact h.go.bd
  .show∀n,n<_->CO (kE _ n);rw[q];exact h.go.Ay
  .show∀n,n<_->∀p∈kE _ n,_;rw[q];exact h.go.ft
  .show 0<=rE _ i/\rE _ i<_;simp_all[GH]
 .intro x I a G;obtain⟨i,l⟩:=jO.1 I;have z:i<f.aA.length:=by have:=(bQ.1 l).1;omega
  rw[Fw hl z] at l;cases l;exact h.nn (cG _) G
 .rw[w]
  have:kB (oP (cl.pf.AT f tl)) f.aA.length 0=kB (oP f) f.aA.length 0:=by show nD (kE _) _ _ _=nD (kE f) _ _ _;rw[q]
  rw[this,h.ord]
theorem rty_at {π:List Int}:xY (AT f tl) π=xY f π:=by
 have l:=BY hl;have key:∀(π) (n),Dx (oP (AT f tl)) n π=Dx (oP f) n π:=by intro π;induction π with
  |nil=>intro n;rfl
  |cons g π q=>
   intro n;show(match CF (kE _ n) g with|some k=>_|none=>_)=(match CF (kE f n) g with|some k=>_|none=>_)
   simp_all
 simp_all
end
structure HV (h:aN) (T F:Nat) (sb:Int->Int->Prop) (bS:Int->Int) (val:Int->Int->Int):Prop where
 hm:HM h T sb
 fl:h.bJ.length=F
 int:∀f:Int,0<=f->f<(F:Int)->(h.bJ.getD f.toNat default).Intro=bS f/\0<=bS f/\bS f<(T:Int)
 vl:∀t f:Int,0<=t->t<(T:Int)->0<=f->f<(F:Int)->sb (bS f) t->f355 h t f=some (val t f,true)/\f356 h t f=some (val t f,true)/\0<=val t f/\val t f<(T:Int)
 noval:∀t f:Int,0<=t->t<(T:Int)->0<=f->f<(F:Int)->¬sb (bS f) t->∃v,f355 h t f=some (v,false)/\f356 h t f=some (v,false)
 mono:∀t u f:Int,0<=f->f<(F:Int)->sb (bS f) t->sb t u->sb (val t f) (val u f)
 le:∀a b:Int,sb a b->a<=b
def Md (sb:Int->Int->Prop) (bS:Int->Int) (val:Int->Int->Int) (f:FSt) (l:Nat->Int) (n:Nat):Prop:=∀p∈kE f n,sb (bS p.1) (l n)/\sb (val (l n) p.1) (l p.2)
def A3 (sb:Int->Int->Prop) (bS:Int->Int) (val:Int->Int->Int) (f:FSt) (l:Nat->Int):Prop:=
 ∀n,n<f.aA.length->sb (rE f n) (l n)/\Md sb bS val f l n
structure TS (T:Nat) (sb:Int->Int->Prop) (bS:Int->Int) (val:Int->Int->Int) (f:FSt) (tl:List Int):Prop where
 len:tl.length=f.aA.length
 rg:∀n,n<f.aA.length->0<=tl.getD n 0/\tl.getD n 0<(T:Int)
 up:∀n,n<f.aA.length->sb (rE f n) (tl.getD n 0)
 dD:∀τ,A3 sb bS val f τ->∀n,n<f.aA.length->sb (tl.getD n 0) (τ n)
def room (T:Nat) (tl:List Int):Nat:=(tl.map λt=>T-t.toNat).sum
def TM {T:Nat}:∀{tl:List Int} {n:Nat} {m:Int},n<tl.length->0<=tl.getD n 0->tl.getD n 0<m->m<(T:Int)->room T (tl.set n m)+1<=room T tl
 |[],n,m,h,_,_,_=>by simp at h
 |x::tl,0,m,_,l,q,w=>by have q:x<m:=q;simp[room,rX,bw,rY];omega
 |x::tl,n+1,m,h,l,q,w=>by
  have l :=by simpa using l
  have:=TM (by simp_all) l q w;simp[room,List.set_cons_succ,bw,rY] at *;omega
def room_le {T:Nat}:∀{tl:List Int},room T tl<=tl.length *T
 |[]=>by simp[room]
 |x::tl=>by have:=room_le (T:=T) (tl:=tl);simp[room,bw,rY,bp,ny] at *;omega
def Yk {T:Nat}:∀{a b:List Int},a.length=b.length->(∀n,n<a.length->0<=a.getD n 0/\a.getD n 0<=b.getD n 0/\b.getD n 0<(T:Int))->a=b\/room T b<room T a
 |[],[],_,_=> .inl rfl
 |x::a,y::b,h,l=>by
  have q:=l 0 ai;have z:0<=x/\x<=y/\y<(T):=q
  rcases Yk (a:=a) (b:=b) (by simp_all) (λn hn=>by
   have:=l (n+1) (by simp_all)
   assumption) with e|e
  .subst e;by_cases w:x=y
   .simp_all
   .simp[room,bw,rY];omega
  .simp[room,bw,rY] at *;omega
 |[],y::b,h,_=>by simp at h
 |x::a,[],h,_=>by simp at h
def abt {a b:List Int} (h:a.length=b.length) (w:∀n,n<a.length->a.getD n 0=b.getD n 0):a=b:=by apply nN h;intro i l q;have:=w i l;rw[bC,bC,aK l,aK q] at this;exact this
section
variable {h:aN} {T F:Nat} {sb:Int->Int->Prop} {bS:Int->Int} {val:Int->Int->Int} (H:HV h T F sb bS val) {f:FSt} (hf:Can T F f) (hn:f.aA.length<=140000) (hT:T<=1000) (hF:F<=1000)
structure Ext (T:Nat) (sb:Int->Int->Prop) (N:Nat) (tl tl':List Int) (u:List Nat):Prop where
 mono:∀n,n<N->sb (tl.getD n 0) (tl'.getD n 0)
 chg:∀n,n<N->tl'.getD n 0=tl.getD n 0\/n∈u
 lt:∀n∈u,n<N
 room:u.length+room T tl'<=room T tl
include H
theorem Ext.refl {tl:List Int} (S:TS T sb bS val f tl):Ext T sb f.aA.length tl tl []:=
 ⟨λn hn=>H.hm.to.refl (S.rg n hn).1 (S.rg n hn).2,λn _=> .inl rfl,(λn hn=>by cases hn),ai⟩
theorem Ext.trans {N:Nat} {a b c:List Int} {u v:List Nat} (l:Ext T sb N a b u) (q:Ext T sb N b c v):Ext T sb N a c (u++v):=by
 refine⟨λn hn=>H.hm.to.trans (l.mono n hn) (q.mono n hn),λn hn=> ?_,λn hn=> ?_,by have:=l.room;have:=q.room;grind⟩
 .rcases l.chg n hn with e|e
  .rcases q.chg n hn with w|w
   .omega
   simp_all
  simp_all
 .exact(bu.1 hn).elim (l.lt n) (q.lt n)
theorem TS.raise {tl:List Int} (S:TS T sb bS val f tl) {n:Nat} (w:n<f.aA.length) {t m:Int} (D:sb (tl.getD n 0) m) (K:sb t m) (G:∀c,sb (tl.getD n 0) c->sb t c->sb m c) (I:∀z,A3 sb bS val f z->sb t (z n)):TS T sb bS val f (tl.set n m):=by
 have hl:n<tl.length:=by rw[S.len];exact w
 refine⟨by rw[jg];exact S.len,λx l=> ?_,λx l=> ?_,λz q x l=> ?_⟩<;>rw[fF]<;>by_cases e:n=x
 .rw[aB ⟨e,af⟩];exact H.hm.to.rr D
 .rw[au (λh=>e h.1)];exact S.rg x l
 .rw[aB ⟨e,af⟩];subst e;exact H.hm.to.trans (S.up n l) D
 .rw[au (λh=>e h.1)];exact S.up x l
 .rw[aB ⟨e,af⟩];subst e;exact G _ (S.dD _ q n l) (I _ q)
 .rw[au (λh=>e h.1)];exact S.dD _ q x l
theorem Ext.one {tl:List Int} (S:TS T sb bS val f tl) {n:Nat} (l:n<f.aA.length) {m:Int} (z:sb (tl.getD n 0) m) (D:m≠tl.getD n 0):Ext T sb f.aA.length tl (tl.set n m) [n]:=by
 have hl:n<tl.length:=by rw[S.len];exact l
 have G:=H.le _ _ z;have w:=H.hm.to.rr z;refine⟨λx q=> ?_,λx q=> ?_,λx q=> ?_,?_⟩
 .rw[fF];by_cases e:n=x
  .simp_all
  .rw[au (λh=>e h.1)];exact H.hm.to.refl (S.rg x q).1 (S.rg x q).2
 .grind
 .simp_all
 .have:=TM hl (S.rg n l).1 af w.2;grind
theorem Md.ext {tl q:List Int} {u:List Nat} (hf:Can T F f) (E:Ext T sb f.aA.length tl q u) {n:Nat} (l:n<f.aA.length) (G:Md sb bS val f (λx=>tl.getD x 0) n):n∈u\/Md sb bS val f (λx=>q.getD x 0) n:=by
 rcases E.chg n l with e|e
 .right;intro p D;have z:=G p D;have w:=hf.bd n l p D;simp only[e] at *;exact⟨z.1,H.hm.to.trans z.2 (E.mono _ w)⟩
 simp_all
include hn
theorem c472 {tl:List Int} (S:TS T sb bS val f tl) {w:List Int} (R:w.length<=1000000000) {n:Nat} (l:n<f.aA.length) {t:Int} (ht:0<=t/\t<(T:Int)) (K:∀D,A3 sb bS val f D->sb t (D n)):
  (∃q u,f472 (n:Int) t h.Types h.bJ tl w=some (true,q,w++iF u)/\TS T sb bS val f q/\Ext T sb f.aA.length tl q u/\sb t (q.getD n 0))\/
  (f472 (n:Int) t h.Types h.bJ tl w=some (false,tl,w)/\∀D,A3 sb bS val f D->False):=by
 have hl:n<tl.length:=by rw[S.len];exact l
 have r:=S.rg n l;rcases H.hm.mt _ t r.1 r.2 ht.1 ht.2 with⟨m,G,L,I,N,O⟩|⟨m,G,L,I⟩
 .by_cases e:m=tl.getD n 0
  .refine .inl ⟨tl,[],e472 ?_,S,Ext.refl H S,by simp_all⟩;rw[tT hl,G,aj,cond_neg (by rfl),tT hl,cond_neg (by simp_all)];simp[iF]
  .refine .inl ⟨_,_,e472 ?_,S.raise H l I N O K,Ext.one H S l I e,by simp_all⟩;rw[tT hl,G,aj,cond_neg (by rfl),tT hl,cond_pos (by simp_all),tT hl,bU ⟨rfl,rfl⟩,cC _ af ai af];rfl
 .refine .inr ⟨e472 ?_,λD z=>I _ (S.dD _ z n l) (K _ z)⟩;rw[tT hl,G,aj,cond_pos (by rfl)]
include hf hF
theorem arcN {n:Nat} (l:n<f.aA.length) {a:cD} (q:a∈f.aA[n].cu):(0<=a.bN/\a.bN<(F:Int))/\(0<=a.To/\a.To<(f.aA.length:Int))/\(a.bN,a.To.toNat)∈kE f n:=by have:=(hf.ao (cG _)).ok a q;refine⟨this.1,this.2,?_⟩;rw[wD l];exact aD.2 ⟨a,q,rfl⟩
theorem h461_8 {n:Nat} (l:n<f.aA.length):∀(xs:List cD) (k:Nat) (tl w:List Int),f.aA[n].cu.drop k=xs->TS T sb bS val f tl->w.length+room T tl<=1000000000->(∀a∈f.aA[n].cu,sb (bS a.bN) (tl.getD n 0))->
  (∃q u,CJ (n:Int) f.aA[n].cu (f.aA[n].cu.length:Int) (k:Int) h.Types h.bJ tl w=some (true,q,w++iF u)/\TS T sb bS val f q/\Ext T sb f.aA.length tl q u/\(n∈u\/∀a∈xs,sb (val (q.getD n 0) a.bN) (q.getD a.To.toNat 0)))\/
  ((∃q w',CJ (n:Int) f.aA[n].cu (f.aA[n].cu.length:Int) (k:Int) h.Types h.bJ tl w=some (false,q,w'))/\∀L,A3 sb bS val f L->False):=by
 have hal:=(hf.ao (cG l)).len;intro xs;induction xs with
 |nil=>intro k tl w z S _ _;refine .inl ⟨tl,[],IN ?_,S,Ext.refl H S, .inr λa G=>by cases G⟩;rw[bq z,az];simp[iF]
 |cons a xs ih=>
  intro k tl w z S hw hint;have G:=aZ (bZ z);obtain⟨D,hto,hsc⟩:=arcN H hf hn hF l G;obtain⟨t,ht⟩:=gm hto.1;have R:t<f.aA.length:=af;have U:a.To.toNat=t:=af;have hl:n<tl.length:=by rw[S.len];exact l
  have r:=S.rg n l;obtain⟨v1,_,v2⟩:=H.vl _ a.bN r.1 r.2 D.1 D.2 (hint a G);have O:∀L,A3 sb bS val f L->sb (val (tl.getD n 0) a.bN) (L t):=λL V=>by have:=((V n l).2 _ hsc).2;rw[U] at this;exact H.hm.to.trans (H.mono _ _ _ D.1 D.2 (hint a G) (S.dD L V n l)) this
  have hlt:=eF z;rcases c472 H hn S (w:=w) af R v2 O with⟨YK,u1,g1,S1,E1,b1⟩|⟨g1,K⟩
  .have I:∀a∈f.aA[n].cu,sb (bS a.bN) (YK.getD n 0):=λa G=>H.hm.to.trans (hint a G) (E1.mono n l)
   have hr:=E1.room;rcases ih (k+1) YK (w++iF u1) (aI z) S1 (by simp[iF];omega) I with⟨YL,u2,g2,S2,E2,N⟩|⟨⟨YL,w2,g2⟩,K⟩
   .refine .inl ⟨YL,u1++u2,IN ?_,S2,E1.trans H E2,?_⟩
    .rw[aV z,ak,aM z,tT hl,show(aN.mk h.Types h.bJ)=h from rfl,v1,aj,cond_neg (by rfl),ht,g1,bI,cond_neg (by rfl),aR z af,g2];simp[iF]
    .rcases N with N|N
     .exact .inl (gD _ N)
     .rcases E1.chg n l with e1|e1
      .rcases E2.chg n l with e2|e2
       .right;intro b hb;rcases aJ.1 hb with rfl|hb
        .rw[e2,e1,U];exact H.hm.to.trans b1 (E2.mono t R)
        .exact N b hb
       .exact .inl (gD _ e2)
      .exact .inl (cR _ e1)
   .refine .inr ⟨⟨YL,w2,IN ?_⟩,K⟩;rw[aV z,ak,aM z,tT hl,show(aN.mk h.Types h.bJ)=h from rfl,v1,aj,cond_neg (by rfl),ht,g1,bI,cond_neg (by rfl),aR z af,g2]
  .refine .inr ⟨⟨tl,w,IN ?_⟩,K⟩;rw[aV z,ak,aM z,tT hl,show(aN.mk h.Types h.bJ)=h from rfl,v1,aj,cond_neg (by rfl),ht,g1,bI,cond_pos (by rfl)]
theorem h461_2 {n:Nat} (q:n<f.aA.length):∀(xs:List cD) (k:Nat) (tl w:List Int),f.aA[n].cu.drop k=xs->TS T sb bS val f tl->w.length+room T tl<=1000000000->(∀a∈f.aA[n].cu.take k,sb (bS a.bN) (tl.getD n 0))->
  (∃l u,D3 (n:Int) f.aA[n].cu (f.aA[n].cu.length:Int) (k:Int) f h.Types h.bJ tl w=some (true,l,w++iF u)/\TS T sb bS val f l/\Ext T sb f.aA.length tl l u/\(n∈u\/Md sb bS val f (λx=>l.getD x 0) n))\/
  ((∃l w',D3 (n:Int) f.aA[n].cu (f.aA[n].cu.length:Int) (k:Int) f h.Types h.bJ tl w=some (false,l,w'))/\∀τ,A3 sb bS val f τ->False):=by
 have hal:=(hf.ao (cG q)).len;intro xs;induction xs with
 |nil=>
  intro k tl w z S hw hint;rw[jY (mT z)] at hint;have step:∀r,CJ (n:Int) f.aA[n].cu (f.aA[n].cu.length:Int) 0 h.Types h.bJ tl w=some r->D3 (n:Int) f.aA[n].cu (f.aA[n].cu.length:Int) (k:Int) f h.Types h.bJ tl w=some r:=λr hr=>by refine O0 ?_;rw[bq z,az,cO q];exact hr
  rcases h461_8 H hf hn hF q f.aA[n].cu 0 tl w rfl S hw hint with⟨l,u,I,O,L,b⟩|⟨⟨l,w',I⟩,G⟩
  .refine .inl ⟨l,u,step _ I,O,L,b.imp id λb p hp=> ?_⟩;rw[wD q] at hp;obtain⟨a,N,rfl⟩:=aD.1 hp;exact⟨H.hm.to.trans (hint a N) (L.mono n q),b a N⟩
  .exact .inr ⟨⟨l,w',step _ I⟩,G⟩
 |cons a xs ih=>
  intro k tl w z S hw hint;have N:=aZ (bZ z);obtain⟨D,hto,U⟩:=arcN H hf hn hF q N;obtain⟨i1,i2⟩:=H.int a.bN D.1 D.2;have hlt:=eF z;have hfl:=H.fl;rcases c472 H hn S (w:=w) af q i2 (λτ V=>((V n q).2 _ U).1) with⟨YK,u1,I,O,L,b1⟩|⟨I,G⟩
  .have hr:=L.room
   rcases ih (k+1) YK (w++iF u1) (aI z) O (by simp[iF];omega) (λb K=>by
    rw[de,bZ z] at K;rcases bu.1 K with K|K
    .exact H.hm.to.trans (hint b K) (L.mono n q)
    .simp at K;subst K;exact b1) with⟨YL,u2,R,S2,E2,b2⟩|⟨⟨YL,w2,R⟩,G⟩
   .refine .inl ⟨YL,u1++u2,O0 ?_,S2,L.trans H E2,b2.imp (λh=>gD _ h) id⟩;rw[aV z,ak,aM z,ye D.1 af,i1,I,bI,cond_neg (by rfl),aR z af,R];simp[iF]
   .refine .inr ⟨⟨YL,w2,O0 ?_⟩,G⟩;rw[aV z,ak,aM z,ye D.1 af,i1,I,bI,cond_neg (by rfl),aR z af,R]
  .refine .inr ⟨⟨tl,w,O0 ?_⟩,G⟩;rw[aV z,ak,aM z,ye D.1 af,i1,I,bI,cond_pos (by rfl)]
theorem c461 {n:Nat} (q:n<f.aA.length) {tl w:List Int} (S:TS T sb bS val f tl) (K:w.length+room T tl<=1000000000):
  (∃l u,f461 f (n:Int) h.Types h.bJ tl w=some (true,l,w++iF u)/\TS T sb bS val f l/\Ext T sb f.aA.length tl l u/\(n∈u\/Md sb bS val f (λx=>l.getD x 0) n))\/
  ((∃l z,f461 f (n:Int) h.Types h.bJ tl w=some (false,l,z))/\∀L,A3 sb bS val f L->False):=by
 have step:∀r,D3 (n) f.aA[n].cu (f.aA[n].cu.length) 0 f h.Types h.bJ tl w=some r->f461 f (n) h.Types h.bJ tl w=some r:=λr O=>by simp_all[e461,cO]
 rcases h461_2 H hf hn hF q _ 0 _ w rfl S K (λa G=>by cases G) with⟨l,u,D,N⟩|⟨⟨l,z,D⟩,I⟩
 .grind
 simp_all
def Us (T:Nat) (sb:Int->Int->Prop) (bS:Int->Int) (val:Int->Int->Int) (f:FSt) (res:Option (FSt×Bool)):Prop:=
 (∃tl,res=some (AT f tl,true)/\TS T sb bS val f tl/\∀n,n<f.aA.length->Md sb bS val f (λx=>tl.getD x 0) n)\/
 (res=some (⟨[]⟩,false)/\∀l,A3 sb bS val f l->False)
omit H hf hn hF in
theorem c462 {l:List Node} (hl:l.length<=1000000):f462 l=some l:=by refine yc (E:=EN _) ?_;refine tW ?_;have q:Nat.ble ((List.map Node.enc l).length *32) 140737488355328=true:=uL (by rw[bz];omega);show(bif Nat.ble ((List.map Node.enc l).length *32) 140737488355328 then _ else _)=_;rw[q];rfl
omit H hf hF in
theorem Xq {R:aN} {S:FSt} {a b:List fO} {c d:List cU} {l q:List Node} {w tl:List Int} (hl:tl.length=f.aA.length):∀(k i:Nat) (s:List Node),f.aA.length=i+k->s.length=f.aA.length->
  (∀j,(z:j<f.aA.length)->s[j]? =some (if j<i then⟨tl.getD j 0,f.aA[j].cu⟩ else f.aA[j]))->
  FJ (f.aA.length:Int) (i:Int) R S a c s l b d tl w q=some (AT f tl,true):=by
 intro k;induction k with
 |zero=>
  intro i s N L G;refine SM ?_;have e:i=f.aA.length:=af;subst e;rw[cond_neg (by rw[aT];omega)]
  have:s=(AT f tl).aA:=by
   apply kZ;intro j;by_cases z:j<f.aA.length
   .rw[G j z,aB z,Fw hl z]
   .rw[gM af,gM (by rw[xq hl];omega)]
  rw[this]
 |succ k O=>
  intro i s N L G;have I:i<f.aA.length:=af;refine SM ?_;have D:=G i I;rw[au (rR _)] at D;rw[cond_pos (by rw[bB];omega),tT af,Bv af,bg,lB D,bP af];refine O (i+1) _ af (by rw[jg];exact L) λj z=> ?_
  rw[nE];by_cases e:i=j
  .subst e;rw[aB rfl,aB af,aB af]
  .rw[au e,G j z];by_cases K:j<i
   .rw[aB K,aB af]
   .rw[au K,au af]
theorem h434_9 {o4:FSt} {b:List fO} {d:List cU}:∀(M i:Nat) (w:List Nat) (tl:List Int),(w.length-i)+room T tl<=M->i<=w.length->w.length+room T tl<=1000000000->TS T sb bS val f tl->(∀n∈w,n<f.aA.length)->
  (∀n,n<f.aA.length->n∈w.drop i\/Md sb bS val f (λx=>tl.getD x 0) n)->
  Us T sb bS val f (B6 (i:Int) h f o4 h.Types h.bJ b d tl (iF w)):=by
 intro M;induction M with
 |zero=>intro i w tl hM hi hw S l K;have e:i=w.length:=af;subst e;refine .inl ⟨tl,OY ?_,S,λn hn=>(K n hn).elim (λh=>by simp_all) id⟩;rw[cond_neg (by grind[decide_eq_false_iff_not,iF]),c462 af,aj];exact Xq hn S.len f.aA.length 0 f.aA af rfl λj hj=>by simp
 |succ M ih=>
  intro i w tl hM hi hw S l K;by_cases D:i<w.length
  .have hd:w.drop i=w[i]::w.drop (i+1):=iJ D;have O:=l w[i] (cG D);generalize hwn:w[i]=n at *;have hol:(iF w).length=w.length:=by simp[iF]
   have G:(iF w).getD i 0=(n:Int):=by unfold iF;simp_all
   rcases c461 H hf hn hF O S (w:=iF w) af with⟨q,u,I,S1,N,b1⟩|⟨⟨q,w',I⟩,R⟩
   .have hr:=N.room;have z:iF w++iF u=iF (w++u):=by simp[iF]
    rw[z] at I
    have:=ih (i+1) (w++u) q (by grind) (by grind) (by grind) S1 (λx L=>(bu.1 L).elim (l x) (N.lt x)) (λx L=>by
     rw[uX af];by_cases e:x=n
     .grind
     .rcases K x L with h1|h1
      .simp_all
      .exact(Md.ext H hf N L h1).imp (λh=>gD _ h) id)
    have step:∀r,B6 ((i+1:Nat):Int) h f o4 h.Types h.bJ b d q (iF (w++u))=some r->B6 (i:Int) h f o4 h.Types h.bJ b d tl (iF w)=some r:=λr hr=>by refine OY ?_;rw[cond_pos (by simp_all),tT af,G,I,bI,cond_neg (by rfl),bP af];omega
    rcases this with⟨YL,U,V⟩|⟨U,V⟩
    .exact .inl ⟨_,step _ U,V⟩
    .exact .inr ⟨step _ U,V⟩
   .refine .inr ⟨OY ?_,R⟩;rw[cond_pos (by simp_all),tT af,G,I,bI,cond_pos (by rfl)]
  .have e:i=w.length:=af;refine .inl ⟨tl,OY ?_,S,λn hn=>(K n hn).elim (λh=>by simp_all) id⟩;rw[cond_neg (by grind[iF]),c462 af,aj];exact Xq hn S.len f.aA.length 0 _ af rfl λj hj=>by simp
theorem TS.init:TS T sb bS val f (f.aA.map (·.dU)):=by
 have e:∀n,n<f.aA.length->(f.aA.map (·.dU)).getD n 0=rE f n:=λn l=>by grind[Ao]
 refine⟨ai,λn l=> ?_,λn l=> ?_,λw q n l=> ?_⟩<;>rw[e n l]
 .exact hf.go.tp n l
 .exact H.hm.to.refl (hf.go.tp n l).1 (hf.go.tp n l).2
 .exact(q n l).1
include hT
theorem c434:Us T sb bS val f (f434 h f):=by
 have S:=TS.init H hf hn hF;have q:=room_le (T:=T) (tl:=f.aA.map (·.dU));rw[bz] at q;have K:f.aA.length *T<=140000 *1000:=nV hn hT;have D:=h434_9 H hf hn hF (o4:=⟨[]⟩) (b:=[]) (d:=[]) _ 0 (List.range f.aA.length) (f.aA.map (·.dU)) (aU _) (cW _) (by simp only[List.length_range];omega) S (λn hn=>gL.1 hn) (λn hn=> .inl (by simpa using hn));have key:∀r,B6 0 h f ⟨[]⟩ h.Types h.bJ [] [] (f.aA.map (·.dU)) (iF (List.range f.aA.length))=some r->∀(k i:Nat),f.aA.length=i+k->
   Qn f.aA (f.aA.length:Int) (i:Int) h f ⟨[]⟩ h.Types h.bJ [] [] ((f.aA.take i).map (·.dU)) (iF (List.range i))=some r:=by
  intro r q k;induction k with
  |zero=>intro i G;have e:i=f.aA.length:=af;subst e;refine acK ?_;rw[cond_neg (by rw[aT];omega),gp];exact q
  |succ k I=>
   intro i G;have l:i<f.aA.length:=af;refine acK ?_;rw[cond_pos (by rw[bB];omega),cO l,cC _ aH ai af,cC _ (by simp[iF];omega) ai af,bP af];have:=I (i+1) af;rw[de,aK l,cn,kP] at this;have e:iF (List.range i++[i])=iF (List.range i)++[(i:Int)]:=by simp[iF]
   rw[e] at this;exact this
 have step:∀r,B6 0 h f ⟨[]⟩ h.Types h.bJ [] [] (f.aA.map (·.dU)) (iF (List.range f.aA.length))=some r->f434 h f=some r:=λr q=>e434 (key r q f.aA.length 0 af)
 rcases D with⟨tl,w,z⟩|⟨w,z⟩
 .exact .inl ⟨tl,step _ w,z⟩
 .exact .inr ⟨step _ w,z⟩
end
end Go.Proofs.YtbnlhmaaccgbjaaGreatDoor.cl.pf
namespace Go.Proofs.YtbnlhmaaccgbjaaGreatDoor.cl.pf
open Go Go.AM
def c471 {a b:List Int} (hl:a.length=b.length) (hn:a.length<=1000000):f471 a b=some (decide (a=b)):=by
 have key:∀(k i),a.length=i+k->Qx a b (i)=some (decide (a.drop i=b.drop i)):=by intro k;induction k with
  |zero=>simp_all[ac0]
  |succ k w=>
   intro i z;have l:i<a.length:=af;have q:i<b.length:=af;refine ac0 ?_;rw[cond_pos (by simp_all),cO l,cO q,bP af,w _ af,iJ l,iJ q];by_cases e:a[i]=b[i]
   .rw[cond_neg (by simp_all)];simp only[cS,e,eE]
   .rw[cond_pos (by simp_all)];simp only[cS,e,false_and,zc]
 exact e471 (key a.length 0 af)
section
variable {h:aN} {T F:Nat} {sb:Int->Int->Prop} {bS:Int->Int} {val:Int->Int->Int} (H:HV h T F sb bS val) {f:FSt} (hf:Can T F f) (hn:f.aA.length<=140000) (hT:T<=1000) (hF:F<=1000)
def Prc (sb:Int->Int->Prop) (bS:Int->Int) (val:Int->Int->Int) (old l:List Int) (n:Nat) (a:cD):Prop:=sb (bS a.bN) (l.getD n 0)/\∃t,sb (old.getD n 0) t/\sb t (l.getD n 0)/\sb (val t a.bN) (l.getD a.To.toNat 0)
def UpT (sb:Int->Int->Prop) (N:Nat) (a b:List Int):Prop:=∀n,n<N->sb (a.getD n 0) (b.getD n 0)
include H hf hn hF
theorem Prc.up {old q l:List Int} (z:UpT sb f.aA.length q l) {n:Nat} (w:n<f.aA.length) {a:cD} (L:a∈f.aA[n].cu) (h:Prc sb bS val old q n a):Prc sb bS val old l n a:=by obtain⟨D,t,G,I,K⟩:=h;obtain⟨_,N,_⟩:=arcN H hf hn hF _ L;exact⟨H.hm.to.trans D (z n w),t,G,H.hm.to.trans I (z n w),H.hm.to.trans K (z _ af)⟩
theorem c477 {tl:List Int} (S:TS T sb bS val f tl) {n:Nat} (w:n<f.aA.length) {a:cD} (ha:a∈f.aA[n].cu):
  (∃D,f477 h (n:Int) a tl=some (true,D)/\TS T sb bS val f D/\UpT sb f.aA.length tl D/\Prc sb bS val tl D n a)\/
  ((∃D,f477 h (n:Int) a tl=some (false,D))/\∀z,A3 sb bS val f z->False):=by
 obtain⟨q,hto,L⟩:=arcN H hf hn hF w ha;obtain⟨t,ht⟩:=gm hto.1;have G:t<f.aA.length:=af;have htt:a.To.toNat=t:=af;obtain⟨i1,i2⟩:=H.int a.bN q.1 q.2;have hl:n<tl.length:=by rw[S.len];exact w
 have hfl:=H.fl;have r:=S.rg n w;have N:∀z,A3 sb bS val f z->sb (bS a.bN) (z n):=λz l=>((l n w).2 _ L).1
 rcases H.hm.mt _ _ r.1 r.2 i2.1 i2.2 with⟨m,m1,m2,R,V,m5⟩|⟨m,m1,m2,R⟩
 .have K:=S.raise H w R V m5 N;have Xu:t<(tl.set n m).length:=by rw[K.len];exact G
  have mr:=H.hm.to.rr R;obtain⟨_,v1,v2⟩:=H.vl m a.bN mr.1 mr.2 q.1 q.2 V;have r1:=K.rg t G;have e1:(tl.set n m).getD n 0=m:=by simp_all
  have O:∀z,A3 sb bS val f z->sb (val m a.bN) (z t):=λz l=>by have:=((l n w).2 _ L).2;rw[htt] at this;have h2:=K.dD z l n w;rw[e1] at h2;exact H.hm.to.trans (H.mono _ _ _ q.1 q.2 V h2) this
  have up1:UpT sb f.aA.length tl (tl.set n m):=λx I=>by
   rw[fF];by_cases e:n=x
   .simp_all
   .rw[au (λh=>e h.1)];exact H.hm.to.refl (S.rg x I).1 (S.rg x I).2
  rcases H.hm.mt _ _ r1.1 r1.2 v2.1 v2.2 with⟨u,u1,u2,u3,u4,u5⟩|⟨u,u1,u2,u3⟩
  .have S2:=K.raise H G u3 u4 u5 O;have U:UpT sb f.aA.length (tl.set n m) ((tl.set n m).set t u):=λx I=>by
    rw[fF (tl.set n m)];by_cases e:t=x
    .simp_all
    .rw[au (λh=>e h.1)];exact H.hm.to.refl (K.rg x I).1 (K.rg x I).2
   refine .inl ⟨(tl.set n m).set t u,e477 ?_,S2,λx I=>H.hm.to.trans (up1 x I) (U x I),?_⟩
   .rw[tT hl,ye q.1 af,i1,m2,aj,cond_neg (by rfl),tT hl,v1,aj,ht,bg n];grind[tT,aj,Int.toNat_natCast]
   .have:=U n w;rw[e1] at this;refine⟨H.hm.to.trans V this,m,R,this,?_⟩;simp_all
  .refine .inr ⟨⟨(tl.set n m).set t u,e477 ?_⟩,λz l=>u3 _ (K.dD z l t G) (O z l)⟩;rw[tT hl,ye q.1 af,i1];grind[tT]
 .refine .inr ⟨⟨tl,e477 ?_⟩,λz l=>R _ (S.dD _ l n w) (N _ l)⟩;rw[tT hl,ye q.1 af,i1,m2,aj,cond_pos (by rfl)]
theorem h441_14 {old:List Int} {o4:FSt} {n:Nat} (D:n<f.aA.length):∀(xs:List cD) (k:Nat) (l:List Int),f.aA[n].cu.drop k=xs->TS T sb bS val f l->UpT sb f.aA.length old l->(∀a∈f.aA[n].cu.take k,Prc sb bS val old l n a)->
  (∃q,TS T sb bS val f q/\UpT sb f.aA.length old q/\UpT sb f.aA.length l q/\(∀a∈f.aA[n].cu,Prc sb bS val old q n a)/\∀r,xz old ((n+1:Nat):Int) h f o4 q=some r->xA old (n:Int) f.aA[n].cu (k:Int) h f o4 l=some r)\/
  (xA old (n:Int) f.aA[n].cu (k:Int) h f o4 l=some (⟨[]⟩,false)/\∀τ,A3 sb bS val f τ->False):=by
 have hal:=(hf.ao (cG D)).len;intro xs;induction xs with
 |nil=>intro k l w S N L;rw[jY (mT w)] at L;refine .inl ⟨l,S,N,λx z=>H.hm.to.refl (S.rg x z).1 (S.rg x z).2,L,λr R=>OZ ?_⟩;rw[bq w,az,bP af];omega
 |cons a xs ih=>
  intro k l w S N L;have ha:=aZ (bZ w);rcases c477 H hf hn hF S D ha with⟨I,O,S1,V,p1⟩|⟨⟨I,O⟩,K⟩
  .have hp1:Prc sb bS val old I n a:=by
    obtain⟨q1,t,q2,q3,q4⟩:=p1;exact⟨q1,t,H.hm.to.trans (N n D) q2,q3,q4⟩
   have U:UpT sb f.aA.length old I:=λx z=>H.hm.to.trans (N x z) (V x z)
   have step:∀r,xA old (n:Int) f.aA[n].cu ((k+1:Nat):Int) h f o4 I=some r->xA old (n:Int) f.aA[n].cu (k:Int) h f o4 l=some r:=λr R=>by refine OZ ?_;rw[aV w,ak,aM w,O,mG,cond_neg (by rfl),aR w af];omega
   rcases ih (k+1) I (aI w) S1 U (λb G=>by
    rw[de,bZ w] at G;rcases bu.1 G with G|G
    .exact Prc.up H hf hn hF V _ (vG G) (L b G)
    simp_all) with⟨c2,S2,u2,u3,p2,g2⟩|⟨g2,K⟩
   .exact .inl ⟨c2,S2,u2,λx z=>H.hm.to.trans (V x z) (u3 x z),p2,λr R=>step _ (g2 r R)⟩
   simp_all
  .refine .inr ⟨OZ ?_,K⟩;rw[aV w,ak,aM w,O,mG,cond_pos (by rfl)]
theorem h441_10 {old:List Int} {o4:FSt}:∀(k i:Nat) (l:List Int),f.aA.length=i+k->TS T sb bS val f l->UpT sb f.aA.length old l->(∀n,(w:n<f.aA.length)->n<i->∀a∈f.aA[n].cu,Prc sb bS val old l n a)->
  (∃q,TS T sb bS val f q/\UpT sb f.aA.length old q/\(∀n,(w:n<f.aA.length)->∀a∈f.aA[n].cu,Prc sb bS val old q n a)/\∀r,(Option.bind (f471 old q) λD=>Ae (!D) h f o4 q)=some r->xz old (i:Int) h f o4 l=some r)\/
  (xz old (i:Int) h f o4 l=some (⟨[]⟩,false)/\∀τ,A3 sb bS val f τ->False):=by
 intro k;induction k with
 |zero=>intro i l hi S N K;refine .inl ⟨l,S,N,λn w=>K n w af,λr L=>XK ?_⟩;simp_all
 |succ k ih=>
  intro i l hi S N K;have z:i<f.aA.length:=af;have step:∀r,xA old (i:Int) f.aA[i].cu 0 h f o4 l=some r->xz old (i:Int) h f o4 l=some r:=λr L=>by refine XK ?_;rw[cond_pos (by grind),cO z];omega
  rcases h441_14 H hf hn hF (old:=old) (o4:=o4) z f.aA[i].cu 0 l rfl S N (λa G=>by cases G) with⟨c1,U,u1,u2,p1,O⟩|⟨O,I⟩
  .rcases ih (i+1) _ af U u1 (λn w hlt a G=>by
    by_cases e:n=i
    .simp_all
    .exact Prc.up H hf hn hF u2 _ G (K n _ af a G)) with⟨c2,V,u3,p2,R⟩|⟨R,I⟩
   .exact .inl ⟨c2,V,u3,p2,λr L=>step _ (O _ (R r L))⟩
   simp_all
  simp_all
omit H hf hF in
theorem h441_21 {z:FSt} {tl:List Int} (hl:tl.length=f.aA.length):∀(k i:Nat),f.aA.length=i+k->Jd (i:Int) f z tl ((AT f tl).aA.take i)=some (AT f tl,true):=by intro k;induction k with
 |zero=>intro i q;refine XL ?_;rw[cond_neg (by rw[aT];omega),jY (by rw[xq hl];omega)]
 |succ k w=>intro i q;have l:i<f.aA.length:=af;refine XL ?_;rw[cond_pos (by rw[bB];omega),tT af,cO l,cC _ (by rw[fJ];omega) ai af,bP af];have:=w (i+1) af;rw[de,Fw hl l] at this;exact this
theorem h441_7 {o4:FSt}:∀(M:Nat) (l:List Int),room T l<=M->TS T sb bS val f l->Us T sb bS val f (Ae true h f o4 l):=by
 intro M;induction M using Nat.strongRecOn with
 |ind M ih=>
 intro l hM S;have step:∀r,xz l 0 h f o4 l=some r->Ae true h f o4 l=some r:=λr hr=>by refine acP ?_;rw[ak,cC _ ai (by rw[S.len];omega) af,dK];omega
 rcases h441_10 H hf hn hF (old:=l) (o4:=o4) f.aA.length 0 l af S (λx U=>H.hm.to.refl (S.rg x U).1 (S.rg x U).2) (λn _ N=>absurd N af) with⟨I,G,u1,p1,K⟩|⟨K,O⟩
 .have z:=c471 (a:=l) (b:=I) (by rw[S.len,G.len]) (by rw[S.len];omega)
  rcases Yk (b:=I) (by rw[S.len,G.len]) (λn q=>by
   rw[S.len] at q
   exact⟨(S.rg n q).1,H.le _ _ (u1 n q),(G.rg n q).2⟩) with e|e
  .subst e;refine .inl ⟨_,step _ (K _ ?_),S,λn q p R=> ?_⟩
   .rw[z];simp;refine acP ?_;rw[az];exact h441_21 hn S.len f.aA.length 0 af
   .rw[wD q] at R;obtain⟨a,V,rfl⟩:=aD.1 R;obtain⟨L,t,D,q3,q4⟩:=p1 n _ a V;have et:=H.hm.to.anti q3 D;simp_all
  .have hne:l≠I:=λe2=>by simp_all
   have:=ih _ af _ (aU _) G;have w:∀r,Ae true h f o4 I=some r->Ae _ h f _ _=some r:=λr hr=>step _ (K _ (by simp_all))
   rcases this with⟨YL,L,D⟩|⟨L,D⟩
   .exact .inl ⟨_,w _ L,D⟩
   .exact .inr ⟨w _ L,D⟩
 .exact .inr ⟨step _ K,O⟩
theorem c441:Us T sb bS val f (f441 h f):=by
 have S:=TS.init H hf hn hF;have D:=h441_7 H hf hn hF (o4:=⟨[]⟩) _ (f.aA.map (·.dU)) (aU _) S;have key:∀r,Ae true h f ⟨[]⟩ (f.aA.map (·.dU))=some r->∀(k i:Nat),f.aA.length=i+k->Qr (i:Int) h f ⟨[]⟩ ((f.aA.take i).map (·.dU))=some r:=by intro r z k;induction k with
  |zero=>intro i G;have e:i=f.aA.length:=af;subst e;refine acO ?_;grind
  |succ k I=>intro i G;have l:i<f.aA.length:=af;refine acO ?_;rw[cond_pos (by grind),cO l,cC _ aH ai af,bP af];have:=I (i+1) af;rw[de] at this;grind
 have step :=λr z=>e441 (key r z f.aA.length 0 af)
 rcases D with⟨tl,q,w⟩|⟨q,w⟩
 .exact .inl ⟨tl,step _ q,w⟩
 .exact .inr ⟨step _ q,w⟩
end
def WT (sb:Int->Int->Prop) (bS:Int->Int) (val:Int->Int->Int) (f:FSt):Prop:=∀n,n<f.aA.length->Md sb bS val f (rE f) n
structure TLub (T F:Nat) (sb:Int->Int->Prop) (bS:Int->Int) (val:Int->Int->Int) (A B f:FSt):Prop where
 can:Can T F f
 wt:WT sb bS val f
 l:Le sb A f
 r:Le sb B f
 least:∀C,Can T F C->WT sb bS val C->Le sb A C->Le sb B C->Le sb f C
 cov:∀P,Cov A P->Cov B P->Cov f P
section
variable {h:aN} {T F:Nat} {sb:Int->Int->Prop} {bS:Int->Int} {val:Int->Int->Int} (H:HV h T F sb bS val)
include H
theorem Xv {L C:FSt} (D:Can T F L) (z:Can T F C) (I:WT sb bS val C) {m:Nat->Nat} (q:F8 sb (oP L) 0 (oP C) 0 m):A3 sb bS val L (λx=>rE C (m x)):=λn hn=>by have w:=D.Rf hn;have l:=q.2 n w;refine⟨l.1,λp G=> ?_⟩;exact I (m n) (z.Uo (q.Rf w)) _ (l.2 p G)
theorem Sy {A B L:FSt} (l:Ui T F sb A B L) {res:Option (FSt×Bool)} (hr:Us T sb bS val L res):
  (∃f,res=some (f,true)/\TLub T F sb bS val A B f)\/(res=some (⟨[]⟩,false)/\∀C,Can T F C->WT sb bS val C->Le sb A C->Le sb B C->False):=by
 rcases hr with⟨tl,e,S,hs⟩|⟨e,U⟩
 .have hl:=S.len;have I:Can T F (AT L tl):=l.can.AT hl S.rg;have R:Le sb L (AT L tl):=by
   refine⟨id,rfl,λi w=>⟨?_,λp q=> ?_⟩⟩
   .show sb (rE L i) (rE (AT L tl) i);rw[GH hl (l.can.Uo w)];exact S.up i (l.can.Uo w)
   .show p∈kE (AT L tl) i;rw[BY hl];exact q
  refine .inl ⟨AT L tl,e,I,λn hn p q=> ?_,Le.trans H.hm.to l.l R,Le.trans H.hm.to l.r R,λC G V z D=> ?_,λP hA hB k hk=> ?_⟩
  .rw[xq hl] at hn;rw[BY hl] at q;have:=hs n hn p q;rw[GH hl hn,GH hl (l.can.bd n hn p q)];exact this
  .obtain⟨m,N⟩:=l.least C G z D;have O:=Xv H l.can G V N;refine⟨m,N.1,λi w=> ?_⟩;have w:sI (kE L) 0 i:=by
    have:sI (kE (AT L tl)) 0 i:=w
    rw[BY hl] at this;exact this
   have K:=l.can.Uo w;refine⟨?_,λp q=> ?_⟩
   .show sb (rE (AT L tl) i) _;rw[GH hl K];exact S.dD _ O i K
   .have q:p∈kE (AT L tl) i:=q;rw[BY hl] at q;exact(N.2 i w).2 p q
  .rw[xq hl] at hk;obtain⟨π,z,D⟩:=l.cov P hA hB k hk;exact⟨π,z,by rw[rty_at hl];exact D⟩
 .refine .inr ⟨e,λC G V z D=> ?_⟩;obtain⟨m,N⟩:=l.least C G z D;exact U _ (Xv H l.can G V N)
def TUni (T F:Nat) (sb:Int->Int->Prop) (bS:Int->Int) (val:Int->Int->Int) (A B:FSt) (res:Option (FSt×Bool)):Prop:=
 (∃f,res=some (f,true)/\TLub T F sb bS val A B f)\/(res=some (⟨[]⟩,false)/\∀C,Can T F C->WT sb bS val C->Le sb A C->Le sb B C->False)
variable {A B:FSt} (hA:Can T F A) (hB:Can T F B) (hT:T<=1000) (hF:F<=300) {P Q:Nat} (hn:A.aA.length+B.aA.length<=140000)
theorem Can.cov {f:FSt} (hf:Can T F f):∃P,Cov f P/\P.length<=f.aA.length:=by
 have:∀k,k<f.aA.length->∃π,xY f π=some k:=λk l=>by have K:=hf.Rf l;clear l;induction K with
  |root=>exact⟨[],rfl⟩
  | @step n p hn I w=>obtain⟨π,hπ⟩:=w;exact⟨π++[p.1],JF.2 ⟨n,hπ,(CG (hf.Ay n)).2 I⟩⟩
 have key:∀N,N<=f.aA.length->∃P:List (List Int),P.length<=N/\∀k,k<N->∃π∈P,xY f π=some k:=by intro N;induction N with
  |zero=>intro _;exact⟨[],aU _,λk l=>absurd l af⟩
  |succ N w=>
   intro O;obtain⟨P,z,q⟩:=w af;obtain⟨π,hπ⟩:=this N af;refine⟨π::P,by simp;omega,λk l=> ?_⟩;by_cases e:k=N
   .subst e;exact⟨π,by simp,hπ⟩
   .obtain⟨L,D,G⟩:=q k af;exact⟨L,by simp[D],G⟩
 obtain⟨P,z,q⟩:=key f.aA.length (aU _);exact⟨P,q,z⟩
include hA hB in
theorem Ui.size {L:FSt} (w:Ui T F sb A B L):L.aA.length<=A.aA.length+B.aA.length:=by obtain⟨P,l,z⟩:=Can.cov H hA;obtain⟨Q,q,D⟩:=Can.cov H hB;have:=(w.cov (P++Q) (l.mono λπ h=>cR _ h) (q.mono λπ h=>gD _ h)).le;rw[cF] at this;omega
include hA hB hT hF hn
include hA hB hT hF hn
theorem c419:TUni T F sb bS val A B (f419 h A B):=by
 rcases c433 H.hm hA hB af af with⟨L,q,w⟩|⟨q,z⟩
 .have K:=w.size H hA hB;have step:∀r:FSt×Bool,f434 h L=some r->f419 h A B=some r:=λr I=>by
   refine e419 ?_;rw[q,aj,cond_neg (by rfl),I,aj]
  rcases Sy H w (c434 H w.can af hT af) with⟨f,e,l⟩|⟨e,l⟩
  .exact .inl ⟨f,step _ e,l⟩
  .exact .inr ⟨step _ e,l⟩
 .refine .inr ⟨e419 ?_,λC G _ D l=>z C G D l⟩;rw[q,aj,cond_pos (by rfl)]
end
end Go.Proofs.YtbnlhmaaccgbjaaGreatDoor.cl.pf
namespace Go.Proofs.YtbnlhmaaccgbjaaGreatDoor.cl.pf
open Go Go.AM
def wI:Nat->List Int->Int->List Node
 |_,[],t=>[⟨t,[]⟩]
 |k,f::π,t=>⟨0,[⟨f,(k+1:Nat)⟩]⟩::wI (k+1) π t
def sM (π:List Int) (t:Int):FSt:=⟨wI 0 π t⟩
def EG:∀(k:Nat) (π:List Int) (t:Int),(wI k π t).length=π.length+1
 |_,[],_=>rfl
 |k,f::π,t=>by simp only[wI,bp,EG (k+1) π t]
def r7 (π:List Int) (t:Int):(sM π t).aA.length=π.length+1:=EG 0 π t
def vL:∀(k:Nat) (π:List Int) (t:Int) (i:Nat),(wI k π t)[i]? =if h:i<π.length then some ⟨0,[⟨π[i],(k+i+1:Nat)⟩]⟩ else if i=π.length then some ⟨t,[]⟩ else none
 |k,[],t,0=>by simp[wI]
 |k,[],t,i+1=>by simp[wI]
 |k,f::π,t,0=>by simp[wI]
 |k,f::π,t,i+1=>by
  simp only[wI,rQ,vL (k+1) π t i,bp,Nat.add_lt_add_iff_right,Eo,Nat.add_right_cancel_iff];by_cases h:i<π.length
  .simp only[h,dite_true];congr 4;omega
  .simp only[h,dite_false]
def Gg {π:List Int} {t:Int} {i:Nat} (h:i<π.length):kE (sM π t) i=[(π[i],i+1)]:=by
 unfold kE
 have:(sM π t).aA[i]? =some ⟨0,[⟨π[i],(0+i+1:Nat)⟩]⟩:=by show(wI 0 π t)[i]? =_;rw[vL,kL h]
 rw[this];simp[scN]
def vM {π:List Int} {t:Int}:kE (sM π t) π.length=[]:=by
 unfold kE
 have:(sM π t).aA[π.length]? =some ⟨t,[]⟩:=by show(wI 0 π t)[π.length]? =_;rw[vL,rZ (rR _),aB rfl]
 rw[this];rfl
def aa6 {π:List Int} {t:Int} {i:Nat} (h:i<π.length):rE (sM π t) i=0:=by
 unfold rE
 have:(sM π t).aA[i]? =some ⟨0,[⟨π[i],(0+i+1:Nat)⟩]⟩:=by show(wI 0 π t)[i]? =_;rw[vL,kL h]
 rw[this]
def DB {π:List Int} {t:Int}:rE (sM π t) π.length=t:=by
 unfold rE
 have:(sM π t).aA[π.length]? =some ⟨t,[]⟩:=by show(wI 0 π t)[π.length]? =_;rw[vL,rZ (rR _),aB rfl]
 rw[this]
def W8:∀(k:Nat) (π:List Int) (t:Int),∀x∈wI k π t,∀a∈x.cu,0<=a.To
 |_,[],t,x,l,a,q=>by simp[wI] at l;subst l;cases q
 |k,f::π,t,x,l,a,q=>by
  simp only[wI,aJ] at l;rcases l with rfl|l
  .simp at q;subst q;show 0<=((k+1:Nat):Int);omega
  .exact W8 (k+1) π t x l a q
def chn_go {T F:Nat} (hT:0<T) {π:List Int} {t:Int} (hπ:∀f∈π,0<=f/\f<(F:Int)) (ht:0<=t/\t<(T:Int)):GO T F (oP (sM π t)) (sM π t).aA.length:=by
 rw[r7];refine⟨λi q p l=> ?_,λi q=> ?_,λi q p l=> ?_,λi q=> ?_⟩<;>by_cases h:i<π.length
 .have l:p∈kE (sM π t) i:=l;rw[Gg h] at l;simp at l;subst l;show i+1<_;omega
 .have l:p∈kE (sM π t) i:=l;have e:i=π.length:=af;rw[e,vM] at l;cases l
 .show CO (kE _ i);rw[Gg h];exact uZ _ _
 .have e:i=π.length:=af;show CO (kE _ i);rw[e,vM];exact CO.nil
 .have l:p∈kE (sM π t) i:=l;rw[Gg h] at l;simp at l;subst l;exact hπ _ (cG h)
 .have l:p∈kE (sM π t) i:=l;have e:i=π.length:=af;rw[e,vM] at l;cases l
 .show 0<=rE _ i/\rE _ i<_;rw[aa6 h];omega
 .have e:i=π.length:=af;show 0<=rE _ i/\rE _ i<_;rw[e,DB];exact ht
def chn_vis {π:List Int} {t:Int}:∀(j i k:Nat),π.length=i+j->j<k->nD (kE (sM π t)) k i (List.range i)=List.range (π.length+1):=by intro j;induction j with
 |zero=>
  intro i k l q;have e:i=π.length:=af;obtain⟨k,rfl⟩:∃k',k=k'+1:=⟨k-1,af⟩
  rw[nD,au ai,e,vM,kP];rfl
 |succ j w=>
  intro i k l q;obtain⟨k,rfl⟩:∃k',k=k'+1:=⟨k-1,af⟩
  rw[nD,au ai,Gg af,<-kP];exact w (i+1) k af af
def vh {T F:Nat} (hT:0<T) {π:List Int} {t:Int} (hπ:∀f∈π,0<=f/\f<(F:Int)) (ht:0<=t/\t<(T:Int)):Can T F (sM π t):=by refine DA (by rw[r7];omega) (chn_go hT hπ ht) (W8 0 π t) ?_;rw[r7];exact chn_vis π.length 0 _ af af
def JU {π:List Int} {t:Int}:∀(i:Nat),i<=π.length->xY (sM π t) (π.take i)=some i:=by intro i;induction i with
 |zero=>intro _;rfl
 |succ i l=>intro q;rw[de,aK (by omega:i<π.length)];refine JF.2 ⟨i,l af,?_⟩;show CF (kE _ i) _=_;rw[Gg af];simp[CF]
def at_take {C:Gr} {n k:Nat} {π:List Int} (h:Dx C n π=some k) (i:Nat):∃j,Dx C n (π.take i)=some j/\Dx C j (π.drop i)=some k:=by rw[<-lY i π,Dy,dm] at h;obtain⟨j,l,q⟩:=h;refine⟨j,l,q⟩
def YZ (C:Gr) (π:List Int) (i:Nat):Nat:=(Dx C 0 (π.take i)).getD 0
def Uz {C:Gr} {k:Nat} {π:List Int} (h:Dx C 0 π=some k) (i:Nat):Dx C 0 (π.take i)=some (YZ C π i):=by obtain⟨j,l,_⟩:=at_take h i;unfold YZ;rw[l];rfl
def Oa {C:Gr} {k:Nat} {π:List Int} (h:Dx C 0 π=some k):YZ C π π.length=k:=by unfold YZ;rw[gp,h];rfl
def Ec {C:Gr} (z:Det C) {k:Nat} {π:List Int} (h:Dx C 0 π=some k) {i:Nat} (D:i<π.length):(π[i],YZ C π (i+1))∈C.sc (YZ C π i):=by have l:=Uz h (i+1);rw[de,aK D] at l;obtain⟨j,q,w⟩:=JF.1 l;rw[Uz h i] at q;cases q;exact(CG (z _)).1 w
section
variable {T F:Nat} {sb:Int->Int->Prop} (hT:TO T sb) {π:List Int} {t:Int} (hπ:∀f∈π,0<=f/\f<(F:Int)) (ht:0<=t/\t<(T:Int))
include hT hπ ht
theorem Oq {C:FSt} (q:Can T F C):Le sb (sM π t) C↔∃k,xY C π=some k/\sb t (rE C k):=by
 have w:0<T:=af;have z:=vh (F:=F) w hπ ht;constructor
 .rintro⟨m,I⟩;have e:=JU (π:=π) (t:=t) π.length (aU _);rw[gp] at e;refine⟨m π.length,AA z q I e,?_⟩;have:=(I.2 π.length (z.Rf (by rw[r7];omega))).1;have K:(oP (sM π t)).ty π.length=t:=DB;rw[K] at this;exact this
 .rintro⟨k,G,O⟩;refine⟨YZ (oP C) π,by simp[YZ,Dx],λi L=> ?_⟩;have D:=z.Uo L;rw[r7] at D;by_cases h:i<π.length
  .refine⟨?_,λp l=> ?_⟩
   .show sb (rE (sM π t) i) _;rw[aa6 h];have N:=IF (λi _=>q.Ay i) _ 0 _ .root (Uz G i);have:=q.go.tp _ (q.Uo N);exact hT.top this.1 this.2
   .have l:p∈kE (sM π t) i:=l;rw[Gg h] at l;simp at l;subst l;exact Ec q.Rc G h
  .have e:i=π.length:=af;subst e;refine⟨?_,λp l=> ?_⟩
   .show sb (rE (sM π t) _) _;rw[DB,Oa G];exact O
   .have l:p∈kE (sM π t) π.length:=l;rw[vM] at l;cases l
end
def Zf (π:List Int) (t:Int):wI 0 π t=(wI 0 π t).take π.length++[⟨t,[]⟩]:=by
 have h:(wI 0 π t).drop π.length=[⟨t,[]⟩]:=by apply kZ;intro i;rw[wJ,vL];cases i with
  |zero=>simp
  |succ i=>rw[rZ af,au af];simp
 rw[<-h,lY]
def RE {p:List Int} (z:p.length<=1000000) (t:Int):f426 p ⟨[⟨t,[]⟩]⟩=some (sM p t):=by
 refine e426 ?_;have key:∀(k i:Nat),p.length=i+k->GU p p (p.length:Int) (i:Int) ⟨[⟨t,[]⟩]⟩ ⟨[]⟩ ((wI 0 p t).take i)=some (sM p t):=by intro k;induction k with
  |zero=>intro i q;have e:i=p.length:=af;subst e;refine OW ?_;rw[cond_neg (by rw[aT];omega)];refine OX ?_;rw[cond_pos (by rfl),jK];refine OV ?_;rw[cond_neg (by rfl),cC _ (by rw[fJ,EG];omega) ai af,<-Zf];refine OX ?_;rw[cond_neg (by rfl)];rfl
  |succ k w=>intro i q;have l:i<p.length:=af;refine OW ?_;rw[cond_pos (by rw[bB];omega),cO l,cC _ (by rw[fJ,EG];omega) ai af,bP af];have:=w (i+1) af;rw[de,vL,kL l] at this;simpa using this
 have:=key p.length 0 af;simpa using this
end Go.Proofs.YtbnlhmaaccgbjaaGreatDoor.cl.pf
namespace Go.Proofs.YtbnlhmaaccgbjaaGreatDoor.cl.pf
open Go Go.AM
def sb0 (a b:Int):Prop:=a=0/\b=0
def to0:TO 1 sb0:=⟨λh=>by have:=h.1;omega,λh=>by have:=h.2;omega,λh l=>⟨af,af⟩,λh l=>⟨h.1,l.2⟩,λh l=>by rw[h.1,h.2],λh l=>⟨rfl,af⟩⟩
def Can.up {T T' F:Nat} {f:FSt} (h:Can T F f) (hT:T<=T'):Can T' F f:=
 ⟨h.ne,⟨h.go.bd,h.go.Ay,h.go.ft,λn hn=>⟨(h.go.tp n hn).1,by have:=(h.go.tp n hn).2;omega⟩⟩,h.eq⟩
structure Shr (F:Nat) (A B:List Int) (f:FSt):Prop where
 can:Can 1 F f
 at_:∃k,xY f A=some k/\xY f B=some k
 least:∀(C:FSt) (T':Nat) (sb:Int->Int->Prop),TO T' sb->Can T' F C->(∃k,xY C A=some k/\xY C B=some k)->Le sb f C
def Shr.le {F T:Nat} {sb:Int->Int->Prop} (hT:TO T sb) {A B:List Int} {f C:FSt} (h:Shr F A B f) (l:1<=T) (q:Can T F C):Le sb f C↔∃k,xY C A=some k/\xY C B=some k:=by
 constructor
 .rintro⟨m,w⟩;obtain⟨k,z,D⟩:=h.at_;exact⟨_,AA (h.can.up l) q w z,AA (h.can.up l) q w D⟩
 .exact h.least C T _ hT q
def le_zero {T F:Nat} {sb:Int->Int->Prop} (hT:TO T sb) {f C:FSt} (hf:Can 1 F f) (w:Can T F C) (h:Le sb0 f (AT C (List.replicate C.aA.length 0))):Le sb f C:=by
 obtain⟨m,q⟩:=h;have hl:(List.replicate C.aA.length (0:Int)).length=C.aA.length:=ai;have G:Can 1 F _:=w.AT hl λi l=>by simp_all
 refine⟨m,q.1,λi l=>⟨?_,λp D=> ?_⟩⟩
 .have I:=hf.go.tp i (hf.Uo l);have e:(oP f).ty i=0:=af;rw[e];have z:=G.Uo (q.Rf l);rw[xq hl] at z;have:=w.go.tp _ z;exact hT.top this.1 this.2
 .have:=(q.2 i l).2 p D;grind[oP,BY]
def aa1 {T F:Nat} {C:FSt} (l:Can T F C):Can 1 F (AT C (List.replicate C.aA.length 0)):=l.AT ai λi q=>by simp_all
