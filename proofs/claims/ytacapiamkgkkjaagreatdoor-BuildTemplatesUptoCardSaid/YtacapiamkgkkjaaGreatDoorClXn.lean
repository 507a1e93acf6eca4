/- The least well-typed feature structure above one (the progra. -/
import Derived.Test.YtacapiamkgkkjaaGreatDoorClXj
set_option linter.all false
namespace Go.Proofs.YtacapiamkgkkjaaGreatDoor.cl.pf
open Go Go.AM
def NR {N k:Nat} (h:k<N):(List.range N).idxOf k=k:=wE List.nodup_range (vm h)
def DP {T F:Nat} {g:FSt} (G:0<g.az.length) (z:GO T F (qS g) g.az.length) (hn:∀x∈g.az,∀a∈x.cn,0<=a.To) (L:kU (qS g) g.az.length 0=List.range g.az.length):Can T F g:=by
 refine⟨G,z,?_⟩;obtain⟨l⟩:=g;unfold nU;rw[L];congr 1;apply lR;intro i;rw[dV];by_cases D:i<l.length
 .rw[vm D,aM _];congr 1;have e1:tU _ i=l[i].eF:=AI _;have q:lU _ i=scN l[i]:=wX _;show l[i]=(⟨tU _ i,(lU _ i).map _⟩)
  rw[e1,q];unfold scN;rw[fF]
  have:l[i].cn=l[i].cn.map ((λp:Int×Nat=>(⟨p.1,((List.range l.length).idxOf p.2)⟩))∘λa=>(a.bP,a.To.toNat)):=by
   conv=>lhs;rw[<-qo l[i].cn]
   refine iK λa w=> ?_
   have I:=hn _ (cG _) a w;have K :=z.bd i D _ (by show _∈lU _ _;rw[q];exact aG.2 ⟨a,w,rfl⟩);show a=⟨_,_⟩
   rw[NR K];obtain⟨x,y⟩:=a;simp at I⊢;congr 1;omega
  exact aU (Node.mk _) this
 simp_all
def IJ (f:FSt) (tl:List Int):FSt:=⟨List.zipWith (λx t=>⟨t,x.cn⟩) f.az tl⟩
section
variable {f:FSt} {tl:List Int} (hl:tl.length=f.az.length)
include hl
theorem CH:(IJ f tl).az.length=f.az.length:=by show(List.zipWith _ _ _).length=_;simp_all
theorem FM {i:Nat} (l:i<f.az.length):(IJ f tl).az[i]? =some ⟨tl.getD i 0,f.az[i].cn⟩:=by show(List.zipWith _ _ _)[i]? =_;simp_all
theorem Xi:lU (IJ f tl)=lU f:=by
 funext i;by_cases l:i<f.az.length
 .unfold lU;rw[FM hl l,aM _];rfl
 grind[Y8,IJ]
theorem ae6 {i:Nat} (l:i<f.az.length):tU (IJ f tl) i=tl.getD i 0:=by unfold tU;rw[FM hl l]
theorem Can.IJ {T F:Nat} (h:Can T F f) {D:Nat} (ht:∀i,i<f.az.length->0<=tl.getD i 0/\tl.getD i 0<(D:Int)):Can D F (IJ f tl):=by
 have w:=CH hl;have q:=Xi hl;refine DP (by rw[w];exact h.ne) ?_ ?_ ?_
 .rw[w];refine⟨?_,?_,?_,λi l=> ?_⟩
  .show Bd (lU _) _;rw[q];exact h.go.bd
  .show∀n,n<_->CU (lU _ n);rw[q];exact h.go.zW
  .show∀n,n<_->∀p∈lU _ n,_;rw[q];exact h.go.ft
  .show 0<=tU _ i/\tU _ i<_;simp_all[ae6]
 .intro x I a G;obtain⟨i,l⟩:=gu.1 I;have z:i<f.az.length:=by have:=(bu.1 l).1;omega
  rw[FM hl z] at l;cases l;exact h.nn (cG _) G
 .rw[w]
  have:kU (qS (cl.pf.IJ f tl)) f.az.length 0=kU (qS f) f.az.length 0:=by show nZ (lU _) _ _ _=nZ (lU f) _ _ _;rw[q]
  rw[this,h.ord]
end
structure HV (h:aV) (T F:Nat) (sb:Int->Int->Prop) (cz:Int->Int) (val:Int->Int->Int):Prop where
 hm:HM h T sb
 fl:h.bG.length=F
 int:∀f:Int,0<=f->f<(F:Int)->(h.bG.getD f.toNat default).Intro=cz f/\0<=cz f/\cz f<(T:Int)
 vl:∀t f:Int,0<=t->t<(T:Int)->0<=f->f<(F:Int)->sb (cz f) t->f355 h t f=some (val t f,true)/\f356 h t f=some (val t f,true)/\0<=val t f/\val t f<(T:Int)
 noval:∀t f:Int,0<=t->t<(T:Int)->0<=f->f<(F:Int)->¬sb (cz f) t->∃v,f355 h t f=some (v,false)/\f356 h t f=some (v,false)
 mono:∀t u f:Int,0<=f->f<(F:Int)->sb (cz f) t->sb t u->sb (val t f) (val u f)
 le:∀a b:Int,sb a b->a<=b
def OL (sb:Int->Int->Prop) (cz:Int->Int) (val:Int->Int->Int) (f:FSt) (l:Nat->Int) (n:Nat):Prop:=∀p∈lU f n,sb (cz p.1) (l n)/\sb (val (l n) p.1) (l p.2)
def CX (sb:Int->Int->Prop) (cz:Int->Int) (val:Int->Int->Int) (f:FSt) (l:Nat->Int):Prop:=
 ∀n,n<f.az.length->sb (tU f n) (l n)/\OL sb cz val f l n
structure TS (T:Nat) (sb:Int->Int->Prop) (cz:Int->Int) (val:Int->Int->Int) (f:FSt) (tl:List Int):Prop where
 len:tl.length=f.az.length
 rg:∀n,n<f.az.length->0<=tl.getD n 0/\tl.getD n 0<(T:Int)
 up:∀n,n<f.az.length->sb (tU f n) (tl.getD n 0)
 dK:∀τ,CX sb cz val f τ->∀n,n<f.az.length->sb (tl.getD n 0) (τ n)
def room (T:Nat) (tl:List Int):Nat:=(tl.map λt=>T-t.toNat).sum
def UE {T:Nat}:∀{tl:List Int} {n:Nat} {m:Int},n<tl.length->0<=tl.getD n 0->tl.getD n 0<m->m<(T:Int)->room T (tl.set n m)+1<=room T tl
 |[],n,m,h,_,_,_=>by simp at h
 |x::tl,0,m,_,l,q,w=>by have q:x<m:=q;simp[room,sH,bM,sJ];omega
 |x::tl,n+1,m,h,l,q,w=>by
  have l :=by simpa using l
  have:=UE (by simp_all) l q w;simp[room,List.set_cons_succ,bM,sJ] at *;omega
def room_le {T:Nat}:∀{tl:List Int},room T tl<=tl.length *T
 |[]=>by simp[room]
 |x::tl=>by have:=room_le (T:=T) (tl:=tl);simp[room,bM,sJ,bA,nX] at *;omega
def Y6 {T:Nat}:∀{a b:List Int},a.length=b.length->(∀n,n<a.length->0<=a.getD n 0/\a.getD n 0<=b.getD n 0/\b.getD n 0<(T:Int))->a=b\/room T b<room T a
 |[],[],_,_=> .inl rfl
 |x::a,y::b,h,l=>by
  have q:=l 0 ai;have z:0<=x/\x<=y/\y<(T):=q
  rcases Y6 (a:=a) (b:=b) (by simp_all) (λn hn=>by
   have:=l (n+1) (by simp_all)
   assumption) with e|e
  .subst e;by_cases w:x=y
   .simp_all
   .simp[room,bM,sJ];omega
  .simp[room,bM,sJ] at *;omega
 |[],y::b,h,_=>by simp at h
 |x::a,[],h,_=>by simp at h
def aco {a b:List Int} (h:a.length=b.length) (w:∀n,n<a.length->a.getD n 0=b.getD n 0):a=b:=by apply oh h;intro i l q;have:=w i l;rw[bD,bD,aM l,aM q] at this;exact this
section
variable {h:aV} {T F:Nat} {sb:Int->Int->Prop} {cz:Int->Int} {val:Int->Int->Int} (H:HV h T F sb cz val) {f:FSt} (hf:Can T F f) (hn:f.az.length<=100000) (hT:T<=1000) (hF:F<=1000)
structure Ext (T:Nat) (sb:Int->Int->Prop) (N:Nat) (tl tl':List Int) (u:List Nat):Prop where
 mono:∀n,n<N->sb (tl.getD n 0) (tl'.getD n 0)
 chg:∀n,n<N->tl'.getD n 0=tl.getD n 0\/n∈u
 lt:∀n∈u,n<N
 room:u.length+room T tl'<=room T tl
include H
theorem Ext.refl {tl:List Int} (S:TS T sb cz val f tl):Ext T sb f.az.length tl tl []:=
 ⟨λn hn=>H.hm.to.refl (S.rg n hn).1 (S.rg n hn).2,λn _=> .inl rfl,(λn hn=>by cases hn),ai⟩
theorem Ext.trans {N:Nat} {a b c:List Int} {u v:List Nat} (l:Ext T sb N a b u) (q:Ext T sb N b c v):Ext T sb N a c (u++v):=by
 refine⟨λn hn=>H.hm.to.trans (l.mono n hn) (q.mono n hn),λn hn=> ?_,λn hn=> ?_,by have:=l.room;have:=q.room;grind⟩
 .rcases l.chg n hn with e|e
  .rcases q.chg n hn with w|w
   .omega
   simp_all
  simp_all
 .exact(bf.1 hn).elim (l.lt n) (q.lt n)
theorem TS.raise {tl:List Int} (S:TS T sb cz val f tl) {n:Nat} (w:n<f.az.length) {t m:Int} (D:sb (tl.getD n 0) m) (K:sb t m) (G:∀c,sb (tl.getD n 0) c->sb t c->sb m c) (I:∀z,CX sb cz val f z->sb t (z n)):TS T sb cz val f (tl.set n m):=by
 have hl:n<tl.length:=by rw[S.len];exact w
 refine⟨by rw[iO];exact S.len,λx l=> ?_,λx l=> ?_,λz q x l=> ?_⟩<;>rw[fI]<;>by_cases e:n=x
 .rw[aC ⟨e,af⟩];exact H.hm.to.rr D
 .rw[aA (λh=>e h.1)];exact S.rg x l
 .rw[aC ⟨e,af⟩];subst e;exact H.hm.to.trans (S.up n l) D
 .rw[aA (λh=>e h.1)];exact S.up x l
 .rw[aC ⟨e,af⟩];subst e;exact G _ (S.dK _ q n l) (I _ q)
 .rw[aA (λh=>e h.1)];exact S.dK _ q x l
theorem Ext.one {tl:List Int} (S:TS T sb cz val f tl) {n:Nat} (l:n<f.az.length) {m:Int} (z:sb (tl.getD n 0) m) (D:m≠tl.getD n 0):Ext T sb f.az.length tl (tl.set n m) [n]:=by
 have hl:n<tl.length:=by rw[S.len];exact l
 have G:=H.le _ _ z;have w:=H.hm.to.rr z;refine⟨λx q=> ?_,λx q=> ?_,λx q=> ?_,?_⟩
 .rw[fI];by_cases e:n=x
  .simp_all
  .rw[aA (λh=>e h.1)];exact H.hm.to.refl (S.rg x q).1 (S.rg x q).2
 .grind
 .simp_all
 .have:=UE hl (S.rg n l).1 af w.2;grind
theorem OL.ext {tl q:List Int} {u:List Nat} (hf:Can T F f) (E:Ext T sb f.az.length tl q u) {n:Nat} (l:n<f.az.length) (G:OL sb cz val f (λx=>tl.getD x 0) n):n∈u\/OL sb cz val f (λx=>q.getD x 0) n:=by
 rcases E.chg n l with e|e
 .right;intro p D;have z:=G p D;have w:=hf.bd n l p D;simp only[e] at *;exact⟨z.1,H.hm.to.trans z.2 (E.mono _ w)⟩
 simp_all
include hn
theorem c472 {tl:List Int} (S:TS T sb cz val f tl) {w:List Int} (R:w.length<=1000000000) {n:Nat} (l:n<f.az.length) {t:Int} (ht:0<=t/\t<(T:Int)) (K:∀D,CX sb cz val f D->sb t (D n)):
  (∃q u,f472 (n:Int) t h.Types h.bG tl w=some (true,q,w++jf u)/\TS T sb cz val f q/\Ext T sb f.az.length tl q u/\sb t (q.getD n 0))\/
  (f472 (n:Int) t h.Types h.bG tl w=some (false,tl,w)/\∀D,CX sb cz val f D->False):=by
 have hl:n<tl.length:=by rw[S.len];exact l
 have r:=S.rg n l;rcases H.hm.mt _ t r.1 r.2 ht.1 ht.2 with⟨m,G,L,I,N,O⟩|⟨m,G,L,I⟩
 .by_cases e:m=tl.getD n 0
  .refine .inl ⟨tl,[],e472 ?_,S,Ext.refl H S,by simp_all⟩;rw[uA hl,G,ak,cond_neg (by rfl),uA hl,cond_neg (by simp_all)];simp[jf]
  .refine .inl ⟨_,_,e472 ?_,S.raise H l I N O K,Ext.one H S l I e,by simp_all⟩;rw[uA hl,G,ak,cond_neg (by rfl),uA hl,cond_pos (by simp_all),uA hl,b9 ⟨rfl,rfl⟩,cF _ af ai af];rfl
 .refine .inr ⟨e472 ?_,λD z=>I _ (S.dK _ z n l) (K _ z)⟩;rw[uA hl,G,ak,cond_pos (by rfl)]
include hf hF
theorem arcN {n:Nat} (l:n<f.az.length) {a:cD} (q:a∈f.az[n].cn):(0<=a.bP/\a.bP<(F:Int))/\(0<=a.To/\a.To<(f.az.length:Int))/\(a.bP,a.To.toNat)∈lU f n:=by have:=(hf.ao (cG _)).ok a q;refine⟨this.1,this.2,?_⟩;rw[wX l];exact aG.2 ⟨a,q,rfl⟩
theorem h461_8 {n:Nat} (l:n<f.az.length):∀(xs:List cD) (k:Nat) (tl w:List Int),f.az[n].cn.drop k=xs->TS T sb cz val f tl->w.length+room T tl<=1000000000->(∀a∈f.az[n].cn,sb (cz a.bP) (tl.getD n 0))->
  (∃q u,CO (n:Int) f.az[n].cn (f.az[n].cn.length:Int) (k:Int) h.Types h.bG tl w=some (true,q,w++jf u)/\TS T sb cz val f q/\Ext T sb f.az.length tl q u/\(n∈u\/∀a∈xs,sb (val (q.getD n 0) a.bP) (q.getD a.To.toNat 0)))\/
  ((∃q w',CO (n:Int) f.az[n].cn (f.az[n].cn.length:Int) (k:Int) h.Types h.bG tl w=some (false,q,w'))/\∀L,CX sb cz val f L->False):=by
 have hal:=(hf.ao (cG l)).len;intro xs;induction xs with
 |nil=>intro k tl w z S _ _;refine .inl ⟨tl,[],Jj ?_,S,Ext.refl H S, .inr λa G=>by cases G⟩;rw[bg z,au];simp[jf]
 |cons a xs ih=>
  intro k tl w z S hw hint;have G:=aP (bU z);obtain⟨D,hto,hsc⟩:=arcN H hf hn hF l G;obtain⟨t,ht⟩:=fW hto.1;have R:t<f.az.length:=af;have U:a.To.toNat=t:=af;have hl:n<tl.length:=by rw[S.len];exact l
  have r:=S.rg n l;obtain⟨v1,_,v2⟩:=H.vl _ a.bP r.1 r.2 D.1 D.2 (hint a G);have O:∀L,CX sb cz val f L->sb (val (tl.getD n 0) a.bP) (L t):=λL V=>by have:=((V n l).2 _ hsc).2;rw[U] at this;exact H.hm.to.trans (H.mono _ _ _ D.1 D.2 (hint a G) (S.dK L V n l)) this
  have hlt:=eM z;rcases c472 H hn S (w:=w) af R v2 O with⟨Zu,u1,g1,S1,E1,b1⟩|⟨g1,K⟩
  .have I:∀a∈f.az[n].cn,sb (cz a.bP) (Zu.getD n 0):=λa G=>H.hm.to.trans (hint a G) (E1.mono n l)
   have hr:=E1.room;rcases ih (k+1) Zu (w++jf u1) (aI z) S1 (by simp[jf];omega) I with⟨Zv,u2,g2,S2,E2,N⟩|⟨⟨Zv,w2,g2⟩,K⟩
   .refine .inl ⟨Zv,u1++u2,Jj ?_,S2,E1.trans H E2,?_⟩
    .rw[aR z,aj,aK z,uA hl,show(aV.mk h.Types h.bG)=h from rfl,v1,ak,cond_neg (by rfl),ht,g1,bq,cond_neg (by rfl),aN z af,g2];simp[jf]
    .rcases N with N|N
     .exact .inl (gX _ N)
     .rcases E1.chg n l with e1|e1
      .rcases E2.chg n l with e2|e2
       .right;intro b hb;rcases aJ.1 hb with rfl|hb
        .rw[e2,e1,U];exact H.hm.to.trans b1 (E2.mono t R)
        .exact N b hb
       .exact .inl (gX _ e2)
      .exact .inl (dx _ e1)
   .refine .inr ⟨⟨Zv,w2,Jj ?_⟩,K⟩;rw[aR z,aj,aK z,uA hl,show(aV.mk h.Types h.bG)=h from rfl,v1,ak,cond_neg (by rfl),ht,g1,bq,cond_neg (by rfl),aN z af,g2]
  .refine .inr ⟨⟨tl,w,Jj ?_⟩,K⟩;rw[aR z,aj,aK z,uA hl,show(aV.mk h.Types h.bG)=h from rfl,v1,ak,cond_neg (by rfl),ht,g1,bq,cond_pos (by rfl)]
theorem h461_2 {n:Nat} (q:n<f.az.length):∀(xs:List cD) (k:Nat) (tl w:List Int),f.az[n].cn.drop k=xs->TS T sb cz val f tl->w.length+room T tl<=1000000000->(∀a∈f.az[n].cn.take k,sb (cz a.bP) (tl.getD n 0))->
  (∃l u,Ei (n:Int) f.az[n].cn (f.az[n].cn.length:Int) (k:Int) f h.Types h.bG tl w=some (true,l,w++jf u)/\TS T sb cz val f l/\Ext T sb f.az.length tl l u/\(n∈u\/OL sb cz val f (λx=>l.getD x 0) n))\/
  ((∃l w',Ei (n:Int) f.az[n].cn (f.az[n].cn.length:Int) (k:Int) f h.Types h.bG tl w=some (false,l,w'))/\∀τ,CX sb cz val f τ->False):=by
 have hal:=(hf.ao (cG q)).len;intro xs;induction xs with
 |nil=>
  intro k tl w z S hw hint;rw[gI (j0 z)] at hint;have step:∀r,CO (n:Int) f.az[n].cn (f.az[n].cn.length:Int) 0 h.Types h.bG tl w=some r->Ei (n:Int) f.az[n].cn (f.az[n].cn.length:Int) (k:Int) f h.Types h.bG tl w=some r:=λr hr=>by refine PG ?_;rw[bg z,au,cR q];exact hr
  rcases h461_8 H hf hn hF q f.az[n].cn 0 tl w rfl S hw hint with⟨l,u,I,O,L,b⟩|⟨⟨l,w',I⟩,G⟩
  .refine .inl ⟨l,u,step _ I,O,L,b.imp id λb p hp=> ?_⟩;rw[wX q] at hp;obtain⟨a,N,rfl⟩:=aG.1 hp;exact⟨H.hm.to.trans (hint a N) (L.mono n q),b a N⟩
  .exact .inr ⟨⟨l,w',step _ I⟩,G⟩
 |cons a xs ih=>
  intro k tl w z S hw hint;have N:=aP (bU z);obtain⟨D,hto,U⟩:=arcN H hf hn hF q N;obtain⟨i1,i2⟩:=H.int a.bP D.1 D.2;have hlt:=eM z;have hfl:=H.fl;rcases c472 H hn S (w:=w) af q i2 (λτ V=>((V n q).2 _ U).1) with⟨Zu,u1,I,O,L,b1⟩|⟨I,G⟩
  .have hr:=L.room
   rcases ih (k+1) Zu (w++jf u1) (aI z) O (by simp[jf];omega) (λb K=>by
    rw[dy,bU z] at K;rcases bf.1 K with K|K
    .exact H.hm.to.trans (hint b K) (L.mono n q)
    .simp at K;subst K;exact b1) with⟨Zv,u2,R,S2,E2,b2⟩|⟨⟨Zv,w2,R⟩,G⟩
   .refine .inl ⟨Zv,u1++u2,PG ?_,S2,L.trans H E2,b2.imp (λh=>gX _ h) id⟩;rw[aR z,aj,aK z,yI D.1 af,i1,I,bq,cond_neg (by rfl),aN z af,R];simp[jf]
   .refine .inr ⟨⟨Zv,w2,PG ?_⟩,G⟩;rw[aR z,aj,aK z,yI D.1 af,i1,I,bq,cond_neg (by rfl),aN z af,R]
  .refine .inr ⟨⟨tl,w,PG ?_⟩,G⟩;rw[aR z,aj,aK z,yI D.1 af,i1,I,bq,cond_pos (by rfl)]
theorem c461 {n:Nat} (q:n<f.az.length) {tl w:List Int} (S:TS T sb cz val f tl) (K:w.length+room T tl<=1000000000):
  (∃l u,f461 f (n:Int) h.Types h.bG tl w=some (true,l,w++jf u)/\TS T sb cz val f l/\Ext T sb f.az.length tl l u/\(n∈u\/OL sb cz val f (λx=>l.getD x 0) n))\/
  ((∃l z,f461 f (n:Int) h.Types h.bG tl w=some (false,l,z))/\∀L,CX sb cz val f L->False):=by
 have step:∀r,Ei (n) f.az[n].cn (f.az[n].cn.length) 0 f h.Types h.bG tl w=some r->f461 f (n) h.Types h.bG tl w=some r:=λr O=>by simp_all[e461,cR]
 rcases h461_2 H hf hn hF q _ 0 _ w rfl S K (λa G=>by cases G) with⟨l,u,D,N⟩|⟨⟨l,z,D⟩,I⟩
 .grind
 simp_all
def ZG (T:Nat) (sb:Int->Int->Prop) (cz:Int->Int) (val:Int->Int->Int) (f:FSt) (res:Option (FSt×Bool)):Prop:=
 (∃tl,res=some (IJ f tl,true)/\TS T sb cz val f tl/\∀n,n<f.az.length->OL sb cz val f (λx=>tl.getD x 0) n)\/
 (res=some (⟨[]⟩,false)/\∀l,CX sb cz val f l->False)
omit H hf hn hF in
theorem c462 {l:List Node} (hl:l.length<=1000000):f462 l=some l:=by refine pX (E:=EN _) ?_;refine lS ?_;have q:Nat.ble ((List.map Node.enc l).length *32) 140737488355328=true:=og (by rw[bI];omega);show(bif Nat.ble ((List.map Node.enc l).length *32) 140737488355328 then _ else _)=_;rw[q];rfl
omit H hf hF in
theorem X4 {R:aV} {S:FSt} {a b:List fL} {c d:List dg} {l q:List Node} {w tl:List Int} (hl:tl.length=f.az.length):∀(k i:Nat) (s:List Node),f.az.length=i+k->s.length=f.az.length->
  (∀j,(z:j<f.az.length)->s[j]? =some (if j<i then⟨tl.getD j 0,f.az[j].cn⟩ else f.az[j]))->
  FX (f.az.length:Int) (i:Int) R S a c s l b d tl w q=some (IJ f tl,true):=by
 intro k;induction k with
 |zero=>
  intro i s N L G;refine TF ?_;have e:i=f.az.length:=af;subst e;rw[cond_neg (by rw[bB];omega)]
  have:s=(IJ f tl).az:=by
   apply lR;intro j;by_cases z:j<f.az.length
   .rw[G j z,aC z,FM hl z]
   .rw[ig af,ig (by rw[CH hl];omega)]
  rw[this]
 |succ k O=>
  intro i s N L G;have I:i<f.az.length:=af;refine TF ?_;have D:=G i I;rw[aA (qu _)] at D;rw[cond_pos (by rw[bN];omega),uA af,BG af,aS,iE D,bJ af];refine O (i+1) _ af (by rw[iO];exact L) λj z=> ?_
  rw[qh];by_cases e:i=j
  .subst e;rw[aC rfl,aC af,aC af]
  .rw[aA e,G j z];by_cases K:j<i
   .rw[aC K,aC af]
   .rw[aA K,aA af]
theorem h434_9 {o4:FSt} {b:List fL} {d:List dg}:∀(M i:Nat) (w:List Nat) (tl:List Int),(w.length-i)+room T tl<=M->i<=w.length->w.length+room T tl<=1000000000->TS T sb cz val f tl->(∀n∈w,n<f.az.length)->
  (∀n,n<f.az.length->n∈w.drop i\/OL sb cz val f (λx=>tl.getD x 0) n)->
  ZG T sb cz val f (Eh (i:Int) h f o4 h.Types h.bG b d tl (jf w)):=by
 intro M;induction M with
 |zero=>intro i w tl hM hi hw S l K;have e:i=w.length:=af;subst e;refine .inl ⟨tl,PE ?_,S,λn hn=>(K n hn).elim (λh=>by simp_all) id⟩;rw[cond_neg (by grind[decide_eq_false_iff_not,jf]),c462 af,ak];exact X4 hn S.len f.az.length 0 f.az af rfl λj hj=>by simp
 |succ M ih=>
  intro i w tl hM hi hw S l K;by_cases D:i<w.length
  .have hd:w.drop i=w[i]::w.drop (i+1):=jY D;have O:=l w[i] (cG D);generalize hwn:w[i]=n at *;have hol:(jf w).length=w.length:=by simp[jf]
   have G:(jf w).getD i 0=(n:Int):=by unfold jf;simp_all
   rcases c461 H hf hn hF O S (w:=jf w) af with⟨q,u,I,S1,N,b1⟩|⟨⟨q,w',I⟩,R⟩
   .have hr:=N.room;have z:jf w++jf u=jf (w++u):=by simp[jf]
    rw[z] at I
    have:=ih (i+1) (w++u) q (by grind) (by grind) (by grind) S1 (λx L=>(bf.1 L).elim (l x) (N.lt x)) (λx L=>by
     rw[vr af];by_cases e:x=n
     .grind
     .rcases K x L with h1|h1
      .simp_all
      .exact(OL.ext H hf N L h1).imp (λh=>gX _ h) id)
    have step:∀r,Eh ((i+1:Nat):Int) h f o4 h.Types h.bG b d q (jf (w++u))=some r->Eh (i:Int) h f o4 h.Types h.bG b d tl (jf w)=some r:=λr hr=>by refine PE ?_;rw[cond_pos (by simp_all),uA af,G,I,bq,cond_neg (by rfl),bJ af];omega
    rcases this with⟨Zv,U,V⟩|⟨U,V⟩
    .exact .inl ⟨_,step _ U,V⟩
    .exact .inr ⟨step _ U,V⟩
   .refine .inr ⟨PE ?_,R⟩;rw[cond_pos (by simp_all),uA af,G,I,bq,cond_pos (by rfl)]
  .have e:i=w.length:=af;refine .inl ⟨tl,PE ?_,S,λn hn=>(K n hn).elim (λh=>by simp_all) id⟩;rw[cond_neg (by grind[jf]),c462 af,ak];exact X4 hn S.len f.az.length 0 _ af rfl λj hj=>by simp
theorem TS.init:TS T sb cz val f (f.az.map (·.eF)):=by
 have e:∀n,n<f.az.length->(f.az.map (·.eF)).getD n 0=tU f n:=λn l=>by grind[AI]
 refine⟨ai,λn l=> ?_,λn l=> ?_,λw q n l=> ?_⟩<;>rw[e n l]
 .exact hf.go.tp n l
 .exact H.hm.to.refl (hf.go.tp n l).1 (hf.go.tp n l).2
 .exact(q n l).1
include hT
theorem c434:ZG T sb cz val f (f434 h f):=by
 have S:=TS.init H hf hn hF;have q:=room_le (T:=T) (tl:=f.az.map (·.eF));have K :=ow hn hT;have D:=h434_9 H hf hn hF (o4:=⟨[]⟩) (b:=[]) (d:=[]) _ 0 _ _ (aQ _) (cO _) (by grind) S (λn hn=>gL.1 hn) (λn hn=> .inl (by simp_all));have key:∀r,Eh 0 h f ⟨[]⟩ h.Types h.bG [] [] (f.az.map (·.eF)) (jf (List.range f.az.length))=some r->∀(k i),f.az.length=i+k->
   Rm f.az (f.az.length) (i) h f ⟨[]⟩ h.Types h.bG [] [] ((f.az.take i).map (·.eF)) (jf (List.range i))=some r:=by
  intro r q k;induction k with
  |zero=>intro i G;refine adH ?_;grind
  |succ k I=>intro i G;have l:i<f.az.length:=af;refine adH ?_;rw[cond_pos (by grind),cR l,cF _ aH ai af,cF _ (by simp[jf];omega) ai af,bJ af];have:=I (i+1) af;rw[dy,cE,lF] at this;simp_all[jf]
 have step :=λr q=>e434 (key r q f.az.length 0 af)
 rcases D with⟨tl,w,z⟩|⟨w,z⟩
 .exact .inl ⟨tl,step _ w,z⟩
 .exact .inr ⟨step _ w,z⟩
end
end Go.Proofs.YtacapiamkgkkjaaGreatDoor.cl.pf
namespace Go.Proofs.YtacapiamkgkkjaaGreatDoor.cl.pf
open Go Go.AM
def c471 {a b:List Int} (hl:a.length=b.length) (hn:a.length<=1000000):f471 a b=some (decide (a=b)):=by
 have key:∀(k i),a.length=i+k->Rv a b (i)=some (decide (a.drop i=b.drop i)):=by intro k;induction k with
  |zero=>simp_all[adX]
  |succ k w=>
   intro i z;have l:i<a.length:=af;have q:i<b.length:=af;refine adX ?_;rw[cond_pos (by simp_all),cR l,cR q,bJ af,w _ af,jY l,jY q];by_cases e:a[i]=b[i]
   .rw[cond_neg (by simp_all)];simp only[c9,e,eS]
   .rw[cond_pos (by simp_all)];simp only[c9,e,false_and,zB]
 exact e471 (key a.length 0 af)
section
variable {h:aV} {T F:Nat} {sb:Int->Int->Prop} {cz:Int->Int} {val:Int->Int->Int} (H:HV h T F sb cz val) {f:FSt} (hf:Can T F f) (hn:f.az.length<=100000) (hT:T<=1000) (hF:F<=1000)
def Prc (sb:Int->Int->Prop) (cz:Int->Int) (val:Int->Int->Int) (old l:List Int) (n:Nat) (a:cD):Prop:=sb (cz a.bP) (l.getD n 0)/\∃t,sb (old.getD n 0) t/\sb t (l.getD n 0)/\sb (val t a.bP) (l.getD a.To.toNat 0)
def UpT (sb:Int->Int->Prop) (N:Nat) (a b:List Int):Prop:=∀n,n<N->sb (a.getD n 0) (b.getD n 0)
include H hf hn hF
theorem Prc.up {old q l:List Int} (z:UpT sb f.az.length q l) {n:Nat} (w:n<f.az.length) {a:cD} (L:a∈f.az[n].cn) (h:Prc sb cz val old q n a):Prc sb cz val old l n a:=by obtain⟨D,t,G,I,K⟩:=h;obtain⟨_,N,_⟩:=arcN H hf hn hF _ L;exact⟨H.hm.to.trans D (z n w),t,G,H.hm.to.trans I (z n w),H.hm.to.trans K (z _ af)⟩
theorem c477 {tl:List Int} (S:TS T sb cz val f tl) {n:Nat} (w:n<f.az.length) {a:cD} (ha:a∈f.az[n].cn):
  (∃D,f477 h (n:Int) a tl=some (true,D)/\TS T sb cz val f D/\UpT sb f.az.length tl D/\Prc sb cz val tl D n a)\/
  ((∃D,f477 h (n:Int) a tl=some (false,D))/\∀z,CX sb cz val f z->False):=by
 obtain⟨q,hto,L⟩:=arcN H hf hn hF w ha;obtain⟨t,ht⟩:=fW hto.1;have G:t<f.az.length:=af;have htt:a.To.toNat=t:=af;obtain⟨i1,i2⟩:=H.int a.bP q.1 q.2;have hl:n<tl.length:=by rw[S.len];exact w
 have hfl:=H.fl;have r:=S.rg n w;have N:∀z,CX sb cz val f z->sb (cz a.bP) (z n):=λz l=>((l n w).2 _ L).1
 rcases H.hm.mt _ _ r.1 r.2 i2.1 i2.2 with⟨m,m1,m2,R,V,m5⟩|⟨m,m1,m2,R⟩
 .have K:=S.raise H w R V m5 N;have X9:t<(tl.set n m).length:=by rw[K.len];exact G
  have mr:=H.hm.to.rr R;obtain⟨_,v1,v2⟩:=H.vl m a.bP mr.1 mr.2 q.1 q.2 V;have r1:=K.rg t G;have e1:(tl.set n m).getD n 0=m:=by simp_all
  have O:∀z,CX sb cz val f z->sb (val m a.bP) (z t):=λz l=>by have:=((l n w).2 _ L).2;rw[htt] at this;have h2:=K.dK z l n w;rw[e1] at h2;exact H.hm.to.trans (H.mono _ _ _ q.1 q.2 V h2) this
  have up1:UpT sb f.az.length tl (tl.set n m):=λx I=>by
   rw[fI];by_cases e:n=x
   .simp_all
   .rw[aA (λh=>e h.1)];exact H.hm.to.refl (S.rg x I).1 (S.rg x I).2
  rcases H.hm.mt _ _ r1.1 r1.2 v2.1 v2.2 with⟨u,u1,u2,u3,u4,u5⟩|⟨u,u1,u2,u3⟩
  .have S2:=K.raise H G u3 u4 u5 O;have U:UpT sb f.az.length (tl.set n m) ((tl.set n m).set t u):=λx I=>by
    rw[fI (tl.set n m)];by_cases e:t=x
    .simp_all
    .rw[aA (λh=>e h.1)];exact H.hm.to.refl (K.rg x I).1 (K.rg x I).2
   refine .inl ⟨(tl.set n m).set t u,e477 ?_,S2,λx I=>H.hm.to.trans (up1 x I) (U x I),?_⟩
   .rw[uA hl,yI q.1 af,i1,m2,ak,cond_neg (by rfl),uA hl,v1,ak,ht,aS n];grind[uA,ak,Int.toNat_natCast]
   .have:=U n w;rw[e1] at this;refine⟨H.hm.to.trans V this,m,R,this,?_⟩;simp_all
  .refine .inr ⟨⟨(tl.set n m).set t u,e477 ?_⟩,λz l=>u3 _ (K.dK z l t G) (O z l)⟩;rw[uA hl,yI q.1 af,i1];grind[uA]
 .refine .inr ⟨⟨tl,e477 ?_⟩,λz l=>R _ (S.dK _ l n w) (N _ l)⟩;rw[uA hl,yI q.1 af,i1,m2,ak,cond_pos (by rfl)]
theorem h441_14 {old:List Int} {o4:FSt} {n:Nat} (D:n<f.az.length):∀(xs:List cD) (k:Nat) (l:List Int),f.az[n].cn.drop k=xs->TS T sb cz val f l->UpT sb f.az.length old l->(∀a∈f.az[n].cn.take k,Prc sb cz val old l n a)->
  (∃q,TS T sb cz val f q/\UpT sb f.az.length old q/\UpT sb f.az.length l q/\(∀a∈f.az[n].cn,Prc sb cz val old q n a)/\∀r,xU old ((n+1:Nat):Int) h f o4 q=some r->xV old (n:Int) f.az[n].cn (k:Int) h f o4 l=some r)\/
  (xV old (n:Int) f.az[n].cn (k:Int) h f o4 l=some (⟨[]⟩,false)/\∀τ,CX sb cz val f τ->False):=by
 have hal:=(hf.ao (cG D)).len;intro xs;induction xs with
 |nil=>intro k l w S N L;rw[gI (j0 w)] at L;refine .inl ⟨l,S,N,λx z=>H.hm.to.refl (S.rg x z).1 (S.rg x z).2,L,λr R=>PF ?_⟩;rw[bg w,au,bJ af];omega
 |cons a xs ih=>
  intro k l w S N L;have ha:=aP (bU w);rcases c477 H hf hn hF S D ha with⟨I,O,S1,V,p1⟩|⟨⟨I,O⟩,K⟩
  .have hp1:Prc sb cz val old I n a:=by
    obtain⟨q1,t,q2,q3,q4⟩:=p1;exact⟨q1,t,H.hm.to.trans (N n D) q2,q3,q4⟩
   have U:UpT sb f.az.length old I:=λx z=>H.hm.to.trans (N x z) (V x z)
   have step:∀r,xV old (n:Int) f.az[n].cn ((k+1:Nat):Int) h f o4 I=some r->xV old (n:Int) f.az[n].cn (k:Int) h f o4 l=some r:=λr R=>by refine PF ?_;rw[aR w,aj,aK w,O,gw,cond_neg (by rfl),aN w af];omega
   rcases ih (k+1) I (aI w) S1 U (λb G=>by
    rw[dy,bU w] at G;rcases bf.1 G with G|G
    .exact Prc.up H hf hn hF V _ (vX G) (L b G)
    simp_all) with⟨c2,S2,u2,u3,p2,g2⟩|⟨g2,K⟩
   .exact .inl ⟨c2,S2,u2,λx z=>H.hm.to.trans (V x z) (u3 x z),p2,λr R=>step _ (g2 r R)⟩
   simp_all
  .refine .inr ⟨PF ?_,K⟩;rw[aR w,aj,aK w,O,gw,cond_pos (by rfl)]
theorem h441_10 {old:List Int} {o4:FSt}:∀(k i:Nat) (l:List Int),f.az.length=i+k->TS T sb cz val f l->UpT sb f.az.length old l->(∀n,(w:n<f.az.length)->n<i->∀a∈f.az[n].cn,Prc sb cz val old l n a)->
  (∃q,TS T sb cz val f q/\UpT sb f.az.length old q/\(∀n,(w:n<f.az.length)->∀a∈f.az[n].cn,Prc sb cz val old q n a)/\∀r,(Option.bind (f471 old q) λD=>AA (!D) h f o4 q)=some r->xU old (i:Int) h f o4 l=some r)\/
  (xU old (i:Int) h f o4 l=some (⟨[]⟩,false)/\∀τ,CX sb cz val f τ->False):=by
 intro k;induction k with
 |zero=>intro i l hi S N K;refine .inl ⟨l,S,N,λn w=>K n w af,λr L=>Yt ?_⟩;simp_all
 |succ k ih=>
  intro i l hi S N K;have z:i<f.az.length:=af;have step:∀r,xV old (i:Int) f.az[i].cn 0 h f o4 l=some r->xU old (i:Int) h f o4 l=some r:=λr L=>by refine Yt ?_;rw[cond_pos (by grind),cR z];omega
  rcases h441_14 H hf hn hF (old:=old) (o4:=o4) z f.az[i].cn 0 l rfl S N (λa G=>by cases G) with⟨c1,U,u1,u2,p1,O⟩|⟨O,I⟩
  .rcases ih (i+1) _ af U u1 (λn w hlt a G=>by
    by_cases e:n=i
    .simp_all
    .exact Prc.up H hf hn hF u2 _ G (K n _ af a G)) with⟨c2,V,u3,p2,R⟩|⟨R,I⟩
   .exact .inl ⟨c2,V,u3,p2,λr L=>step _ (O _ (R r L))⟩
   simp_all
  simp_all
omit H hf hF in
theorem h441_21 {z:FSt} {tl:List Int} (hl:tl.length=f.az.length):∀(k i:Nat),f.az.length=i+k->JK (i:Int) f z tl ((IJ f tl).az.take i)=some (IJ f tl,true):=by intro k;induction k with
 |zero=>intro i q;refine Yu ?_;rw[cond_neg (by rw[bB];omega),gI (by rw[CH hl];omega)]
 |succ k w=>intro i q;have l:i<f.az.length:=af;refine Yu ?_;rw[cond_pos (by rw[bN];omega),uA af,cR l,cF _ (by rw[dL];omega) ai af,bJ af];have:=w (i+1) af;rw[dy,FM hl l] at this;exact this
theorem h441_7 {o4:FSt}:∀(M:Nat) (l:List Int),room T l<=M->TS T sb cz val f l->ZG T sb cz val f (AA true h f o4 l):=by
 intro M;induction M using Nat.strongRecOn with
 |ind M ih=>
 intro l hM S;have step:∀r,xU l 0 h f o4 l=some r->AA true h f o4 l=some r:=λr hr=>by refine adM ?_;rw[aj,cF _ ai (by rw[S.len];omega) af,dU];omega
 rcases h441_10 H hf hn hF (old:=l) (o4:=o4) f.az.length 0 l af S (λx U=>H.hm.to.refl (S.rg x U).1 (S.rg x U).2) (λn _ N=>absurd N af) with⟨I,G,u1,p1,K⟩|⟨K,O⟩
 .have z:=c471 (a:=l) (b:=I) (by rw[S.len,G.len]) (by rw[S.len];omega)
  rcases Y6 (b:=I) (by rw[S.len,G.len]) (λn q=>by
   rw[S.len] at q
   exact⟨(S.rg n q).1,H.le _ _ (u1 n q),(G.rg n q).2⟩) with e|e
  .subst e;refine .inl ⟨_,step _ (K _ ?_),S,λn q p R=> ?_⟩
   .rw[z];simp;refine adM ?_;rw[au];exact h441_21 hn S.len f.az.length 0 af
   .rw[wX q] at R;obtain⟨a,V,rfl⟩:=aG.1 R;obtain⟨L,t,D,q3,q4⟩:=p1 n _ a V;have et:=H.hm.to.anti q3 D;simp_all
  .have hne:l≠I:=λe2=>by simp_all
   have:=ih _ af _ (aQ _) G;have w:∀r,AA true h f o4 I=some r->AA _ h f _ _=some r:=λr hr=>step _ (K _ (by simp_all))
   rcases this with⟨Zv,L,D⟩|⟨L,D⟩
   .exact .inl ⟨_,w _ L,D⟩
   .exact .inr ⟨w _ L,D⟩
 .exact .inr ⟨step _ K,O⟩
theorem c441:ZG T sb cz val f (f441 h f):=by
 have S:=TS.init H hf hn hF;have D:=h441_7 H hf hn hF (o4:=⟨[]⟩) _ (f.az.map (·.eF)) (aQ _) S;have key:∀r,AA true h f ⟨[]⟩ (f.az.map (·.eF))=some r->∀(k i:Nat),f.az.length=i+k->Rq (i:Int) h f ⟨[]⟩ ((f.az.take i).map (·.eF))=some r:=by intro r z k;induction k with
  |zero=>intro i G;have e:i=f.az.length:=af;subst e;refine adL ?_;grind
  |succ k I=>intro i G;have l:i<f.az.length:=af;refine adL ?_;rw[cond_pos (by grind),cR l,cF _ aH ai af,bJ af];have:=I (i+1) af;rw[dy] at this;grind
 have step :=λr z=>e441 (key r z f.az.length 0 af)
 rcases D with⟨tl,q,w⟩|⟨q,w⟩
 .exact .inl ⟨tl,step _ q,w⟩
 .exact .inr ⟨step _ q,w⟩
end
section
variable {h:aV} {T F:Nat} {sb:Int->Int->Prop} {cz:Int->Int} {val:Int->Int->Int} (H:HV h T F sb cz val)
include H
variable {A B:FSt} (hA:Can T F A) (hB:Can T F B) (hT:T<=1000) (hF:F<=300) {P Q:Nat} (hn:A.az.length+B.az.length<=100000)
theorem Can.cov {f:FSt} (hf:Can T F f):∃P,Cov f P/\P.length<=f.az.length:=by
 have:∀k,k<f.az.length->∃π,Gl f π=some k:=λk l=>by have K:=hf.Uv l;clear l;induction K with
  |root=>exact⟨[],rfl⟩
  | @step n p hn I w=>obtain⟨π,hπ⟩:=w;exact⟨π++[p.1],Kb.2 ⟨n,hπ,(CL (hf.zW n)).2 I⟩⟩
 have key:∀N,N<=f.az.length->∃P:List (List Int),P.length<=N/\∀k,k<N->∃π∈P,Gl f π=some k:=by intro N;induction N with
  |zero=>intro _;exact⟨[],aQ _,λk l=>absurd l af⟩
  |succ N w=>
   intro O;obtain⟨P,z,q⟩:=w af;obtain⟨π,hπ⟩:=this N af;refine⟨π::P,by simp;omega,λk l=> ?_⟩;by_cases e:k=N
   .subst e;exact⟨π,by simp,hπ⟩
   .obtain⟨L,D,G⟩:=q k af;exact⟨L,by simp[D],G⟩
 obtain⟨P,z,q⟩:=key f.az.length (aQ _);exact⟨P,q,z⟩
include hA hB in
theorem Lub.size {L:FSt} (w:Lub T F sb A B L):L.az.length<=A.az.length+B.az.length:=by obtain⟨P,l,z⟩:=Can.cov H hA;obtain⟨Q,q,D⟩:=Can.cov H hB;have:=(w.cov (P++Q) (l.mono λπ h=>dx _ h) (q.mono λπ h=>gX _ h)).le;rw[bR] at this;omega
include hA hB hT hF hn
end
end Go.Proofs.YtacapiamkgkkjaaGreatDoor.cl.pf
namespace Go.Proofs.YtacapiamkgkkjaaGreatDoor.cl.pf
open Go Go.AM
def yG:Nat->List Int->Int->List Node
 |_,[],t=>[⟨t,[]⟩]
 |k,f::π,t=>⟨0,[⟨f,(k+1:Nat)⟩]⟩::yG (k+1) π t
def tK (π:List Int) (t:Int):FSt:=⟨yG 0 π t⟩
def EX:∀(k:Nat) (π:List Int) (t:Int),(yG k π t).length=π.length+1
 |_,[],_=>rfl
 |k,f::π,t=>by simp only[yG,bA,EX (k+1) π t]
def sM (π:List Int) (t:Int):(tK π t).az.length=π.length+1:=EX 0 π t
def wk:∀(k:Nat) (π:List Int) (t:Int) (i:Nat),(yG k π t)[i]? =if h:i<π.length then some ⟨0,[⟨π[i],(k+i+1:Nat)⟩]⟩ else if i=π.length then some ⟨t,[]⟩ else none
 |k,[],t,0=>by simp[yG]
 |k,[],t,i+1=>by simp[yG]
 |k,f::π,t,0=>by simp[yG]
 |k,f::π,t,i+1=>by
  simp only[yG,sB,wk (k+1) π t i,bA,Nat.add_lt_add_iff_right,EG,Nat.add_right_cancel_iff];by_cases h:i<π.length
  .simp only[h,dite_true];congr 4;omega
  .simp only[h,dite_false]
def Gz {π:List Int} {t:Int} {i:Nat} (h:i<π.length):lU (tK π t) i=[(π[i],i+1)]:=by
 unfold lU
 have:(tK π t).az[i]? =some ⟨0,[⟨π[i],(0+i+1:Nat)⟩]⟩:=by show(yG 0 π t)[i]? =_;rw[wk,lC h]
 rw[this];simp[scN]
def wm {π:List Int} {t:Int}:lU (tK π t) π.length=[]:=by
 unfold lU
 have:(tK π t).az[π.length]? =some ⟨t,[]⟩:=by show(yG 0 π t)[π.length]? =_;rw[wk,dif_neg (qu _),aC rfl]
 rw[this];rfl
def abY {π:List Int} {t:Int} {i:Nat} (h:i<π.length):tU (tK π t) i=0:=by
 unfold tU
 have:(tK π t).az[i]? =some ⟨0,[⟨π[i],(0+i+1:Nat)⟩]⟩:=by show(yG 0 π t)[i]? =_;rw[wk,lC h]
 rw[this]
def DQ {π:List Int} {t:Int}:tU (tK π t) π.length=t:=by
 unfold tU
 have:(tK π t).az[π.length]? =some ⟨t,[]⟩:=by show(yG 0 π t)[π.length]? =_;rw[wk,dif_neg (qu _),aC rfl]
 rw[this]
def XN:∀(k:Nat) (π:List Int) (t:Int),∀x∈yG k π t,∀a∈x.cn,0<=a.To
 |_,[],t,x,l,a,q=>by simp[yG] at l;subst l;cases q
 |k,f::π,t,x,l,a,q=>by
  simp only[yG,aJ] at l;rcases l with rfl|l
  .simp at q;subst q;show 0<=((k+1:Nat):Int);omega
  .exact XN (k+1) π t x l a q
def chn_go {T F:Nat} (hT:0<T) {π:List Int} {t:Int} (hπ:∀f∈π,0<=f/\f<(F:Int)) (ht:0<=t/\t<(T:Int)):GO T F (qS (tK π t)) (tK π t).az.length:=by
 rw[sM];refine⟨λi q p l=> ?_,λi q=> ?_,λi q p l=> ?_,λi q=> ?_⟩<;>by_cases h:i<π.length
 .have l:p∈lU (tK π t) i:=l;rw[Gz h] at l;simp at l;subst l;show i+1<_;omega
 .have l:p∈lU (tK π t) i:=l;have e:i=π.length:=af;rw[e,wm] at l;cases l
 .show CU (lU _ i);rw[Gz h];exact sI _ _
 .have e:i=π.length:=af;show CU (lU _ i);rw[e,wm];exact CU.nil
 .have l:p∈lU (tK π t) i:=l;rw[Gz h] at l;simp at l;subst l;exact hπ _ (cG h)
 .have l:p∈lU (tK π t) i:=l;have e:i=π.length:=af;rw[e,wm] at l;cases l
 .show 0<=tU _ i/\tU _ i<_;rw[abY h];omega
 .have e:i=π.length:=af;show 0<=tU _ i/\tU _ i<_;rw[e,DQ];exact ht
def chn_vis {π:List Int} {t:Int}:∀(j i k:Nat),π.length=i+j->j<k->nZ (lU (tK π t)) k i (List.range i)=List.range (π.length+1):=by intro j;induction j with
 |zero=>
  intro i k l q;have e:i=π.length:=af;obtain⟨k,rfl⟩:∃k',k=k'+1:=⟨k-1,af⟩
  rw[nZ,aA ai,e,wm,lF];rfl
 |succ j w=>
  intro i k l q;obtain⟨k,rfl⟩:∃k',k=k'+1:=⟨k-1,af⟩
  rw[nZ,aA ai,Gz af,<-lF];exact w (i+1) k af af
def vF {T F:Nat} (hT:0<T) {π:List Int} {t:Int} (hπ:∀f∈π,0<=f/\f<(F:Int)) (ht:0<=t/\t<(T:Int)):Can T F (tK π t):=by refine DP (by rw[sM];omega) (chn_go hT hπ ht) (XN 0 π t) ?_;rw[sM];exact chn_vis π.length 0 _ af af
def Kr {π:List Int} {t:Int}:∀(i:Nat),i<=π.length->Gl (tK π t) (π.take i)=some i:=by intro i;induction i with
 |zero=>intro _;rfl
 |succ i l=>intro q;rw[dy,aM (by omega:i<π.length)];refine Kb.2 ⟨i,l af,?_⟩;show DG (lU _ i) _=_;rw[Gz af];simp[DG]
def at_take {C:Gr} {n k:Nat} {π:List Int} (h:EO C n π=some k) (i:Nat):∃j,EO C n (π.take i)=some j/\EO C j (π.drop i)=some k:=by rw[<-jZ i π,DN,dB] at h;obtain⟨j,l,q⟩:=h;refine⟨j,l,q⟩
def ZK (C:Gr) (π:List Int) (i:Nat):Nat:=(EO C 0 (π.take i)).getD 0
def Vm {C:Gr} {k:Nat} {π:List Int} (h:EO C 0 π=some k) (i:Nat):EO C 0 (π.take i)=some (ZK C π i):=by obtain⟨j,l,_⟩:=at_take h i;unfold ZK;rw[l];rfl
def OO {C:Gr} {k:Nat} {π:List Int} (h:EO C 0 π=some k):ZK C π π.length=k:=by unfold ZK;rw[fZ,h];rfl
def Et {C:Gr} (z:Det C) {k:Nat} {π:List Int} (h:EO C 0 π=some k) {i:Nat} (D:i<π.length):(π[i],ZK C π (i+1))∈C.sc (ZK C π i):=by have l:=Vm h (i+1);rw[dy,aM D] at l;obtain⟨j,q,w⟩:=Kb.1 l;rw[Vm h i] at q;cases q;exact(CL (z _)).1 w
section
variable {T F:Nat} {sb:Int->Int->Prop} (hT:TO T sb) {π:List Int} {t:Int} (hπ:∀f∈π,0<=f/\f<(F:Int)) (ht:0<=t/\t<(T:Int))
include hT hπ ht
theorem abX {C:FSt} (q:Can T F C):Le sb (tK π t) C↔∃k,Gl C π=some k/\sb t (tU C k):=by
 have w:0<T:=af;have z:=vF (F:=F) w hπ ht;constructor
 .rintro⟨m,I⟩;have e:=Kr (π:=π) (t:=t) π.length (aQ _);rw[fZ] at e;refine⟨m π.length,Fl z q I e,?_⟩;have:=(I.2 π.length (z.Uv (by rw[sM];omega))).1;have K:(qS (tK π t)).ty π.length=t:=DQ;rw[K] at this;exact this
 .rintro⟨k,G,O⟩;refine⟨ZK (qS C) π,by simp[ZK,EO],λi L=> ?_⟩;have D:=z.rlt L;rw[sM] at D;by_cases h:i<π.length
  .refine⟨?_,λp l=> ?_⟩
   .show sb (tU (tK π t) i) _;rw[abY h];have N:=OR (λi _=>q.zW i) _ 0 _ .root (Vm G i);have:=q.go.tp _ (q.rlt N);exact hT.top this.1 this.2
   .have l:p∈lU (tK π t) i:=l;rw[Gz h] at l;simp at l;subst l;exact Et q.RX G h
  .have e:i=π.length:=af;subst e;refine⟨?_,λp l=> ?_⟩
   .show sb (tU (tK π t) _) _;rw[DQ,OO G];exact O
   .have l:p∈lU (tK π t) π.length:=l;rw[wm] at l;cases l
end
def Z0 (π:List Int) (t:Int):yG 0 π t=(yG 0 π t).take π.length++[⟨t,[]⟩]:=by
 have h:(yG 0 π t).drop π.length=[⟨t,[]⟩]:=by apply lR;intro i;rw[pO,wk];cases i with
  |zero=>simp
  |succ i=>rw[dif_neg af,aA af];simp
 rw[<-h,jZ]
def Sq {p:List Int} (z:p.length<=1000000) (t:Int):f426 p ⟨[⟨t,[]⟩]⟩=some (tK p t):=by
 refine e426 ?_;have key:∀(k i:Nat),p.length=i+k->Hi p p (p.length:Int) (i:Int) ⟨[⟨t,[]⟩]⟩ ⟨[]⟩ ((yG 0 p t).take i)=some (tK p t):=by intro k;induction k with
  |zero=>intro i q;have e:i=p.length:=af;subst e;refine PC ?_;rw[cond_neg (by rw[bB];omega)];refine PD ?_;rw[cond_pos (by rfl),jS];refine PB ?_;rw[cond_neg (by rfl),cF _ (by rw[dL,EX];omega) ai af,<-Z0];refine PD ?_;rw[cond_neg (by rfl)];rfl
  |succ k w=>intro i q;have l:i<p.length:=af;refine PC ?_;rw[cond_pos (by rw[bN];omega),cR l,cF _ (by rw[dL,EX];omega) ai af,bJ af];have:=w (i+1) af;rw[dy,wk,lC l] at this;simpa using this
 have:=key p.length 0 af;simpa using this
end Go.Proofs.YtacapiamkgkkjaaGreatDoor.cl.pf
namespace Go.Proofs.YtacapiamkgkkjaaGreatDoor.cl.pf
open Go Go.AM
def sb0 (a b:Int):Prop:=a=0/\b=0
def to0:TO 1 sb0:=⟨λh=>by have:=h.1;omega,λh=>by have:=h.2;omega,λh l=>⟨af,af⟩,λh l=>⟨h.1,l.2⟩,λh l=>by rw[h.1,h.2],λh l=>⟨rfl,af⟩⟩
def Can.up {T T' F:Nat} {f:FSt} (h:Can T F f) (hT:T<=T'):Can T' F f:=
 ⟨h.ne,⟨h.go.bd,h.go.zW,h.go.ft,λn hn=>⟨(h.go.tp n hn).1,by have:=(h.go.tp n hn).2;omega⟩⟩,h.eq⟩
structure Shr (F:Nat) (A B:List Int) (f:FSt):Prop where
 can:Can 1 F f
 at_:∃k,Gl f A=some k/\Gl f B=some k
 least:∀(C:FSt) (T':Nat) (sb:Int->Int->Prop),TO T' sb->Can T' F C->(∃k,Gl C A=some k/\Gl C B=some k)->Le sb f C
def Shr.le {F T:Nat} {sb:Int->Int->Prop} (hT:TO T sb) {A B:List Int} {f C:FSt} (h:Shr F A B f) (l:1<=T) (q:Can T F C):Le sb f C↔∃k,Gl C A=some k/\Gl C B=some k:=by
 constructor
 .rintro⟨m,w⟩;obtain⟨k,z,D⟩:=h.at_;exact⟨_,Fl (h.can.up l) q w z,Fl (h.can.up l) q w D⟩
 .exact h.least C T _ hT q
def le_zero {T F:Nat} {sb:Int->Int->Prop} (hT:TO T sb) {f C:FSt} (hf:Can 1 F f) (w:Can T F C) (h:Le sb0 f (IJ C (List.replicate C.az.length 0))):Le sb f C:=by
 obtain⟨m,q⟩:=h;have hl:(List.replicate C.az.length (0:Int)).length=C.az.length:=ai;have G:Can 1 F _:=w.IJ hl λi l=>by simp_all
 refine⟨m,q.1,λi l=>⟨?_,λp D=> ?_⟩⟩
 .have I:=hf.go.tp i (hf.rlt l);have e:(qS f).ty i=0:=af;rw[e];have z:=G.rlt (q.Uv l);rw[CH hl] at z;have:=w.go.tp _ z;exact hT.top this.1 this.2
 .have:=(q.2 i l).2 p D;grind[qS,Xi]
def abS {T F:Nat} {C:FSt} (l:Can T F C):Can 1 F (IJ C (List.replicate C.az.length 0)):=l.IJ ai λi q=>by simp_all
