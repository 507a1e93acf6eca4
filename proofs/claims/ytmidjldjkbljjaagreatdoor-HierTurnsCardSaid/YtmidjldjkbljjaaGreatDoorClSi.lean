/- Layer 6. -/
import Derived.Test.YtmidjldjkbljjaaGreatDoorClSh
set_option linter.unusedVariables false
set_option linter.unusedSimpArgs false
set_option linter.unusedSectionVars false
namespace Go.Proofs.YtmidjldjkbljjaaGreatDoor.cl
open Go Go.AM
def vq (t:af):af:=⟨t.Name,t.aD.reverse,t.aR.reverse⟩
def Yy (d:List af) (n:Nat):List af:=(List.range d.length).map fun i=>vq (d.getD ((i+n) % d.length) default)
theorem JL {α:Type} {l:List α} {m:Nat} (h:m<l.length):(l.take (m+1)).reverse=l[m]::(l.take m).reverse:=by
 rw [List.take_add_one,List.getElem?_eq_getElem h,List.reverse_append];rfl
theorem N3 {m:Nat} (h:m≤1073741824):IntKind.wrap .i64 ((m:Int)-1)=(m:Int)-1:=eC (by omega) (by omega)
theorem ZN {d:List af} {n:Int} {t:af} (ht:t.aR.length≤1000) {v12 eU:Int} {o:List af} (ho:o.length≤1000) {a b:List aT} {e f:List aj} {r:List af}:∀(m:Nat) (acc:List aj),m≤t.aR.length→acc.length+m≤1000→
  tD d n v12 (IntKind.wrap .i64 (eU+1)) (o++[⟨t.Name,b,acc++(t.aR.take m).reverse⟩])=some r→uh d n ((m:Int)-1) v12 eU o t t.Name a e b acc=some r:=by
 intro m
 induction m with
 |zero=>
  intro acc hm hacc hr;refine Ng _ _ _ _ _ _ _ _ _ _ _ _ ?_;rw [List.take_zero,List.reverse_nil,List.append_nil] at hr;rw [cond_neg (by rw [decide_eq_false_iff_not];omega),cg _ (by omega) (by simp) (by omega)];exact hr
 |succ m ih=>
  intro acc hm hacc hr;refine Ng _ _ _ _ _ _ _ _ _ _ _ _ ?_;have e1:(((m+1:Nat):Int)-1)=(m:Int):=by omega
  rw [e1,cond_pos (by rw [decide_eq_true_iff];omega),bG (by omega),cg _ (by omega) (by simp) (by omega),N3 (by omega)];refine ih (acc++[t.aR[m]]) (by omega) (by rw [List.length_append];simp;omega) ?_;rw [JL (by omega)] at hr;rw [List.append_assoc];exact hr
theorem ZM {d:List af} {n:Int} {t:af} (ht:t.aR.length≤1000) (hs:t.aD.length≤1000) {v12 eU:Int} {o:List af} (ho:o.length≤1000) {a:List aT} {e:List aj} {r:List af}:∀(m:Nat) (acc:List aT),m≤t.aD.length→acc.length+m≤1000→
  tD d n v12 (IntKind.wrap .i64 (eU+1)) (o++[⟨t.Name,acc++(t.aD.take m).reverse,t.aR.reverse⟩])=some r→y9 d n ((m:Int)-1) v12 eU o t t.Name a e acc []=some r:=by
 intro m
 induction m with
 |zero=>
  intro acc hm hacc hr;refine Sj _ _ _ _ _ _ _ _ _ _ _ _ ?_;rw [List.take_zero,List.reverse_nil,List.append_nil] at hr;rw [cond_neg (by rw [decide_eq_false_iff_not];omega),N3 (by omega)];refine ZN (f:=e) ht ho t.aR.length [] (by omega) (by simp;omega) ?_;rw [List.nil_append,List.take_length];exact hr
 |succ m ih=>
  intro acc hm hacc hr;refine Sj _ _ _ _ _ _ _ _ _ _ _ _ ?_;have e1:(((m+1:Nat):Int)-1)=(m:Int):=by omega
  rw [e1,cond_pos (by rw [decide_eq_true_iff];omega),bG (by omega),cg _ (by omega) (by simp) (by omega),N3 (by omega)];refine ih (acc++[t.aD[m]]) (by omega) (by rw [List.length_append];simp;omega) ?_;rw [JL (by omega)] at hr;rw [List.append_assoc];exact hr
theorem h343 {d:List af} (hd:d.length≤1000) (hz:∀t∈d,t.aD.length≤1000∧t.aR.length≤1000) {n:Nat} (hn:n≤255):∀(k i:Nat),d.length-i=k→i≤d.length→
  tD d n d.length i ((List.range i).map fun i=>vq (d.getD ((i+n) % d.length) default))=some (Yy d n):=by
 intro k
 induction k with
 |zero=>
  intro i hi hle;have:i=d.length:=by omega
  subst this;refine Si _ _ _ _ _ ?_;rw [cond_neg (by rw [decide_eq_false_iff_not];omega)];rfl
 |succ k ih=>
  intro i hi hle;refine Si _ _ _ _ _ ?_;have hlt:(i+n) % d.length<d.length:=Nat.mod_lt _ (by omega);have e0:Int.tmod (IntKind.wrap .i64 ((i:Int)+IntKind.wrap .i64 (n:Int))) (d.length:Int)=(((i+n) % d.length:Nat):Int):=by
   rw [eC (n:=(n:Int)) (by omega) (by omega),eC (by omega) (by omega),Int.tmod_eq_emod_of_nonneg (by omega)];rw [show ((i:Int)+(n:Int))=((i+n:Nat):Int) by omega];rfl
  have hg:d.getD ((i+n) % d.length) default=d[(i+n) % d.length]:=by rw [List.getD_eq_getElem?_getD,List.getElem?_eq_getElem hlt];rfl
  obtain ⟨z1,z2⟩:=hz _ (List.getElem_mem hlt);rw [cond_pos (by rw [decide_eq_true_iff];omega),aV (by omega),e0,bG hlt,N3 (by omega)];refine ZM z2 z1 (by rw [List.length_map,List.length_range];omega) d[(i+n) % d.length].aD.length [] (by omega) (by simp;omega) ?_;rw [List.nil_append,List.take_length,bh (by omega)];have hs:=ih (i+1) (by omega) (by omega);rw [List.range_succ,List.map_append,List.map_cons,List.map_nil,hg] at hs;exact hs
theorem c343 {d:List af} (hd:d.length≤1000) (hz:∀t∈d,t.aD.length≤1000∧t.aR.length≤1000) {n:Nat} (hn:n≤255):f343 d n=some (Yy d n):=by
 refine e343 _ _ ?_;exact h343 hd hz hn _ 0 rfl (by omega)
theorem TH (d:List af) (n:Nat):(Yy d n).Perm (d.map vq):=by
 by_cases h0:d.length=0
 ·have:d=[]:=List.length_eq_zero_iff.1 h0
  subst this;exact List.Perm.refl _
 ·have hm:n % d.length<d.length:=Nat.mod_lt _ (by omega)
  have e:Yy d n=(d.drop (n % d.length)++d.take (n % d.length)).map vq:=by
   unfold Yy;apply List.ext_getElem
   ·simp only [List.length_map,List.length_range,List.length_append,List.length_drop,List.length_take];omega
   ·intro i h1 h2
    have hi:i<d.length:=by simpa using h1
    simp only [List.getElem_map,List.getElem_range];have hx:(i+n) % d.length=(i+n % d.length) % d.length:=by rw [Nat.add_mod_mod]
    have hlt:(i+n) % d.length<d.length:=Nat.mod_lt _ (by omega)
    congr 1
    rw [List.getD_eq_getElem?_getD,List.getElem?_eq_getElem hlt,Option.getD_some,List.getElem_append];by_cases hc:i<(d.drop (n % d.length)).length
    ·rw [dif_pos hc,List.getElem_drop]
     have rV:i<d.length-n % d.length:=by simpa using hc
     congr 1
     rw [hx,Nat.mod_eq_of_lt (by omega)];omega
    ·rw [dif_neg hc,List.getElem_take]
     have rV:¬i<d.length-n % d.length:=by simpa using hc
     congr 1
     rw [hx,List.length_drop,Nat.mod_eq_sub_mod (by omega),Nat.mod_eq_of_lt (by omega)];omega
  rw [e];refine List.Perm.map _ ?_;refine List.perm_append_comm.trans ?_;rw [List.take_append_drop]
section
variable {d D:List af} (hp:D.Perm (d.map vq))
include hp
theorem eS {t:af}:t∈D↔∃u∈d,vq u=t:=by rw [hp.mem_iff,List.mem_map]
theorem wI:(cO D).Perm (cO d):=by
 have:=hp.map (·.Name);rw [List.map_map] at this;exact this
theorem wD:D.length=d.length:=by rw [hp.length_eq,List.length_map]
theorem MF {x y:aT}:y∈dn D x↔y∈dn d x:=by
 rw [vj,vj];constructor
 ·rintro ⟨t,ht,e,hx⟩
  obtain ⟨u,hu,rfl⟩:=(eS hp).1 ht;exact ⟨u,hu,e,by simpa [vq] using hx⟩
 ·rintro ⟨u,hu,e,hx⟩
  exact ⟨vq u,(eS hp).2 ⟨u,hu,rfl⟩,e,by simpa [vq] using hx⟩
theorem wB {x y:aT}:Le D x y↔Le d x y:=by
 constructor
 ·intro h
  induction h with
  |refl=>exact .refl
  |step _ h2 ih=>exact .step ih ((MF hp).1 h2)
 ·intro h
  induction h with
  |refl=>exact .refl
  |step _ h2 ih=>exact .step ih ((MF hp).2 h2)
theorem P6:uT D=uT d:=by
 unfold uT;rw [wD hp]
 congr 1
 rw [Bool.eq_iff_iff,List.any_eq_true,List.any_eq_true];constructor
 ·rintro ⟨t,ht,h⟩
  obtain ⟨u,hu,rfl⟩:=(eS hp).1 ht;exact ⟨u,hu,by simpa [vq] using h⟩
 ·rintro ⟨u,hu,h⟩
  exact ⟨vq u,(eS hp).2 ⟨u,hu,rfl⟩,by simpa [vq] using h⟩
theorem Pr:kQ D=kQ d:=by
 unfold kQ;rw [(hp.filter _).length_eq,List.filter_map,List.length_map]
 congr 1
 refine List.filter_congr fun t _=> ?_
 simp [vq]
end
theorem DW {d:List af}:tP d=0↔uT d=false∧kD [] d=0∧kZ (cO d) d=0∧kQ d=1∧qK d:=by
 unfold tP;constructor
 ·intro h
  split at h
  ·cases h
  split at h
  ·rename_i h1;exact absurd h h1
  split at h
  ·rename_i h1;exact absurd h h1
  split at h
  ·cases h
  split at h
  ·rename_i h0 h1 h2 h3 h4
   exact ⟨by simpa using h0,Classical.byContradiction h1,Classical.byContradiction h2,Classical.byContradiction h3,h4⟩
  ·cases h
 ·rintro ⟨a,b,c,e,f⟩
  rw [if_neg (by simp [a]),if_neg (fun h=>h b),if_neg (fun h=>h c),if_neg (fun h=>h e),if_pos f]
theorem Qm {d D:List af} (hp:D.Perm (d.map vq)) (h:tP d=0):tP D=0:=by
 rw [DW] at h⊢;obtain ⟨a,b,c,e,r,hr⟩:=h;obtain ⟨b1,b2,_⟩:=(nX d []).1 b;have c1:=(jX _ d).1 c;have hn:=wI hp;refine ⟨by rw [P6 hp];exact a,(nX D []).2 ⟨fun t ht=> ?_,hn.nodup_iff.2 b2,fun t _=>by simp⟩,(jX _ D).2 fun t ht=> ?_,by rw [Pr hp];exact e,r,fun t ht s hs=> ?_⟩
 ·obtain ⟨u,hu,rfl⟩:=(eS hp).1 ht
  exact b1 u hu
 ·obtain ⟨u,hu,rfl⟩:=(eS hp).1 ht
  obtain ⟨p,q⟩:=c1 u hu;refine ⟨fun s hs=>hn.mem_iff.2 (p s (by simpa [vq] using hs)),?_⟩;show u.aD.reverse.Nodup;exact (List.reverse_perm _).nodup_iff.2 q
 ·obtain ⟨u,hu,rfl⟩:=(eS hp).1 ht
  exact hr u hu s (by simpa [vq] using hs)
section
variable {d D:List af} (hp:D.Perm (d.map vq))
include hp
theorem xU:cH D=cH d:=SS.ext (cT _) (cT _) fun y=>by
 rw [cL,cL];exact (wI hp).mem_iff
theorem MC {all:List aT} {x:aT}:cw D all x=cw d all x:=by
 unfold cw idxs
 congr 1
 refine List.filter_congr fun i _=> ?_
 rw [decide_eq_decide];exact wB hp
theorem Hy:fI D=fI d:=by
 unfold fI;rw [xU hp];exact List.map_congr_left fun x _=>MC hp
theorem Kt {l:List aT} {x:aT}:gQ D l x=gQ d l x:=by
 rw [Bool.eq_iff_iff,nq,nq];constructor
 ·intro h y hy hl;exact h y hy ((wB hp).2 hl)
 ·intro h y hy hl;exact h y hy ((wB hp).1 hl)
theorem Ek {l:List aT}:kN D l=kN d l:=by
 unfold kN;have e:(l.filter fun s=>decide (s∈cO D))=l.filter fun s=>decide (s∈cO d):=List.filter_congr fun s _=>by
  rw [decide_eq_decide];exact (wI hp).mem_iff
 rw [e];exact List.filter_congr fun x _=>Kt hp
theorem Dm {w:Nat}:∀(ss:List aT) (cs:List Nat) (i:Nat) (acc:List aT),eT D w ss cs i acc=eT d w ss cs i acc:=by
 intro ss
 induction ss with
 |nil=>intro cs i acc;cases cs<;>simp only [eT,Ek hp]
 |cons s ss ih=>
  intro cs i acc;cases cs with
  |nil=>simp only [eT,Ek hp]
  |cons c cs=>simp only [eT,ih]
theorem x7:bK D=bK d:=by
 unfold bK sW;rw [xU hp,Hy hp]
 congr 1
 exact List.map_congr_left fun w _=>by rw [Dm hp]
theorem xJ:tys D=tys d:=by unfold tys;rw [x7 hp]
theorem Qk:fN D=fN d:=by unfold fN;rw [x7 hp]
theorem UI {x:aT}:nu D x=nu d x:=by unfold nu;rw [Qk hp]
theorem sA {x:aT}:cwd D x=cwd d x:=by
 show cw D (cH D) x=cw d (cH d) x;rw [xU hp];exact MC hp
end
theorem zi {t:af} (hn:(fns t).Nodup) (F:aT):val (vq t) F=val t F:=by
 have hn':(fns (vq t)).Nodup:=by
  show (t.aR.reverse.map (·.cF)).Nodup;rw [List.map_reverse];exact (List.reverse_perm _).nodup_iff.2 hn
 cases h:val t F with
 |none=>
  have:=CT h;cases h2:val (vq t) F with
  |none=>rfl
  |some v=>
   obtain ⟨x,hx,e,_⟩:=tJ h2;exact absurd e (this x (by simpa [vq] using hx))
 |some v=>
  obtain ⟨x,hx,e,e2⟩:=tJ h;have:=Mg hn' (x:=x) (by simpa [vq] using hx);rw [←e,this,e2]
section
variable {d D:List af} (hp:D.Perm (d.map vq)) (hN:∀t∈d,(fns t).Nodup)
include hp hN
theorem vD {F x:aT}:x∈dG D F↔x∈dG d F:=by
 rw [qu,qu];constructor
 ·rintro ⟨t,ht,hv,rfl⟩
  obtain ⟨u,hu,rfl⟩:=(eS hp).1 ht;rw [zi (hN u hu)] at hv;exact ⟨u,hu,hv,rfl⟩
 ·rintro ⟨u,hu,hv,rfl⟩
  exact ⟨vq u,(eS hp).2 ⟨u,hu,rfl⟩,by rw [zi (hN u hu)];exact hv,rfl⟩
theorem OR (A:Acc d) (A':Acc D) {F:aT}:nP D F=nP d F:=by
 apply Option.ext;intro u;rw [qo A',qo A,vD hp hN];constructor
 ·rintro ⟨a,b⟩
  exact ⟨a,fun v hv=>(wB hp).1 (b v ((vD hp hN).2 hv))⟩
 ·rintro ⟨a,b⟩
  exact ⟨a,fun v hv=>(wB hp).2 (b v ((vD hp hN).1 hv))⟩
omit hN in
theorem sJ:eR D=eR d:=SS.ext (cT _) (cT _) fun y=>by
 show y∈eR D↔y∈eR d;rw [Nt,Nt];constructor
 ·rintro ⟨t,ht,x,hx,e⟩
  obtain ⟨u,hu,rfl⟩:=(eS hp).1 ht;exact ⟨u,hu,x,by simpa [vq] using hx,e⟩
 ·rintro ⟨u,hu,x,hx,e⟩
  exact ⟨vq u,(eS hp).2 ⟨u,hu,rfl⟩,x,by simpa [vq] using hx,e⟩
theorem Ir {w:Nat} {F:aT}:inh D w F=inh d w F:=by
 have hs:(inh D w F).isSome=true↔(inh d w F).isSome=true:=by
  rw [wq,wq];constructor
  ·rintro ⟨t,ht,hv,hs⟩
   obtain ⟨u,hu,rfl⟩:=(eS hp).1 ht;rw [zi (hN u hu)] at hv;exact ⟨u,hu,hv,by rw [←sA hp];exact hs⟩
  ·rintro ⟨u,hu,hv,hs⟩
   exact ⟨vq u,(eS hp).2 ⟨u,hu,rfl⟩,by rw [zi (hN u hu)];exact hv,by rw [sA hp];exact hs⟩
 cases h1:inh D w F with
 |none=>
  cases h2:inh d w F with
  |none=>rfl
  |some b=>rw [h1,h2] at hs;simp at hs
 |some a=>
  cases h2:inh d w F with
  |none=>rw [h1,h2] at hs;simp at hs
  |some b=>
   congr 1
   apply Nat.eq_of_testBit_eq;intro i;rw [Bool.eq_iff_iff,Ay h1,Ay h2];constructor
   ·intro h u hu v hv hsu
    have:=h (vq u) ((eS hp).2 ⟨u,hu,rfl⟩) v (by rw [zi (hN u hu)];exact hv) (by rw [sA hp];exact hsu);rw [sA hp] at this;exact this
   ·intro h t ht v hv hst
    obtain ⟨u,hu,rfl⟩:=(eS hp).1 ht;rw [zi (hN u hu)] at hv;rw [sA hp] at hst⊢;exact h u hu v hv hst
theorem Ph {w:Nat}:∀(l:List aT) (k:Nat),kG D w l k=kG d w l k:=by
 intro l
 induction l with
 |nil=>intro k;rfl
 |cons F l ih=>
  intro k;unfold kG;rw [Ir hp hN,xJ hp,ih]
end
theorem OJ {d D:List af} (hp:D.Perm (d.map vq)) (O:CZ d) (h0:tP d=0) (z':Sz D) (hf':Fz D):gJ D=0∧c9 D=c9 d:=by
 have hN:∀t∈d,(fns t).Nodup:=fun t ht=>((nN _ d).1 O.fd t ht).2
 have h0':=Qm hp h0;have hl:=wD hp;have A':=qM h0';have hint:∀F,nP D F=nP d F:=fun F=>OR hp hN O.ok.acc A'
 have hle:=O.ok.le;have h64:=O.ok.len;have O':CZ D:=by
  refine ⟨⟨z',A',by omega,by rw [Hy hp];exact hle⟩,hf',by rw [sJ hp];exact O.f64,?_,fun F hF=> ?_,fun w hw F hF=> ?_⟩
  ·rw [nN]
   intro t ht;obtain ⟨u,hu,rfl⟩:=(eS hp).1 ht;obtain ⟨p,q⟩:=(nN _ d).1 O.fd u hu;refine ⟨fun x hx=> ?_,?_⟩
   ·obtain ⟨p1,p2⟩:=p x (by simpa [vq] using hx)
    exact ⟨p1,(wI hp).mem_iff.2 p2⟩
   ·show (u.aR.reverse.map (·.cF)).Nodup
    rw [List.map_reverse];exact (List.reverse_perm _).nodup_iff.2 q
  ·rw [sJ hp] at hF
   rw [hint];exact O.intro F hF
  ·rw [sJ hp] at hF
   rw [xJ hp] at hw;rw [Ir hp hN];exact O.vals w hw F hF
 refine ⟨Ue O' h0',?_⟩;have e1:eP D=eP d:=by
  unfold eP;rw [sJ hp];refine List.map_congr_left fun F _=> ?_
  unfold Fu;rw [hint,UI hp]
 have e2:uu D=uu d:=by
  funext i
  unfold uu LK;rw [x7 hp,xJ hp,sJ hp,Ph hp hN]
 unfold c9;rw [e1,e2,xJ hp]
theorem Ya [nC] {d:List af} {n:Int} (h0:0≤n) (h1:n≤255):f313 d n=some true:=by
 refine e313 _ _ ?_;rw [Oe,ah,vO];cases hL:mH d with
 |false=>rfl
 |true=>
  obtain ⟨z,h64,hf⟩:=AB hL;obtain ⟨_,h16,hf20⟩:=Np hL;rw [Bool.not_true,cond_false,OO z h64 hf,ah];by_cases hc:gJ d=0
  ·obtain ⟨O,hk,_⟩:=p9 z h64 hf hc
   have hn:n=((n.toNat:Nat):Int):=by omega
   have hsz:∀t∈d,t.aD.length≤20:=by
    intro t ht;simp only [mH,Bool.and_eq_true,decide_eq_true_eq,List.all_eq_true] at hL;exact (hL.2 t ht).1
   have hp:=TH d n.toNat
   have z':Sz (Yy d n.toNat):=⟨by have:=wD hp;omega,fun t ht=>by
    obtain ⟨u,hu,rfl⟩:=(eS hp).1 ht;have:=hsz u hu;show u.aD.reverse.length≤_
    rw [List.length_reverse];omega⟩
   have hf':Fz (Yy d n.toNat):=fun t ht=>by
    obtain ⟨u,hu,rfl⟩:=(eS hp).1 ht;have:=hf u hu;show u.aR.reverse.length≤_;rw [List.length_reverse];omega
   obtain ⟨c1,c2⟩:=OJ hp O hk z' hf';rw [if_pos hc,cond_neg (by simp),hn,c343 (by omega) (fun t ht=>by have:=hsz t ht;have:=hf t ht;omega) (by omega),ah,OO z' (by have:=wD hp;omega) hf',if_pos c1,ah,cond_pos (by simp),c2,WT (hz5 O),ah,cond_true];rfl
  ·rw [if_neg hc,cond_pos (by simpa using hc)];rfl
end Go.Proofs.YtmidjldjkbljjaaGreatDoor.cl
