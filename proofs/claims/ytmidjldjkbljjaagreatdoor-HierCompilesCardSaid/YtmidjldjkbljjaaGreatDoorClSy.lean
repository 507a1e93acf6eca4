/- The example of chapter 6 holds. -/
import Derived.Test.YtmidjldjkbljjaaGreatDoorClSx
set_option linter.unusedVariables false
set_option linter.unusedSimpArgs false
set_option linter.unusedSectionVars false
set_option maxRecDepth 100000
namespace Go.Proofs.YtmidjldjkbljjaaGreatDoor.cl
open Go Go.AM
def TP:List (aT×List aT):=[([116,111,112],
  [[116,111,112],[108,105,115,116],[100,108,105,115,116],[105,110,100,101,120],[114,101,108],
   [113,101,113],[115,101,109],[115,105,103,110],[99,111,110,115],[110,117,108,108],
   [104,97,110,100,108,101],[101,118,101,110,116],[101,110,116,105,116,121]]),
 ([108,105,115,116],[[108,105,115,116],[99,111,110,115],[110,117,108,108]]),
 ([99,111,110,115],[[99,111,110,115]]),([110,117,108,108],[[110,117,108,108]]),
 ([100,108,105,115,116],[[100,108,105,115,116]]),
 ([105,110,100,101,120],
  [[105,110,100,101,120],[104,97,110,100,108,101],[101,118,101,110,116],
   [101,110,116,105,116,121]]),
 ([104,97,110,100,108,101],[[104,97,110,100,108,101]]),
 ([101,118,101,110,116],[[101,118,101,110,116]]),
 ([101,110,116,105,116,121],[[101,110,116,105,116,121]]),([114,101,108],[[114,101,108]]),
 ([113,101,113],[[113,101,113]]),([115,101,109],[[115,101,109]]),
 ([115,105,103,110],[[115,105,103,110]])]
def EP:List vF:=[([116,111,112],8191),([105,110,100,101,120],60),([108,105,115,116],193),([99,111,110,115],1),
  ([100,108,105,115,116],2),([101,110,116,105,116,121],4),([101,118,101,110,116],8),
  ([104,97,110,100,108,101],16),([110,117,108,108],128),([113,101,113],256),([114,101,108],512),
  ([115,101,109],1024),([115,105,103,110],2048)]
def NP:List aT:=[[116,111,112],[105,110,100,101,120],[108,105,115,116],[99,111,110,115],[100,108,105,115,116],[101,110,116,105,116,121],[101,118,101,110,116],[104,97,110,100,108,101],[110,117,108,108],[113,101,113],[114,101,108],[115,101,109],[115,105,103,110]]
def GP:List aT:=[[65,82,71,83],[67,79,78,83],[70,73,82,83,84],[72,73,71,72],[73,78,68,69,88],[76,65,66,69,76],[76,65,83,84],[76,73,83,84],[76,79,87],[82,69,76,83],[82,69,83,84],[83,69,77],[84,79,80]]
theorem YG:At gA (Yc TP) EP:=⟨Yx (by kernel_rfl),by kernel_rfl,Ud (by kernel_rfl)⟩
theorem ckP:gJ gA=0:=YG.gJ.trans (by kernel_rfl)
theorem LR:CZ gA:=by
 obtain ⟨z,h64,hf⟩:=TE (d:=gA) (by kernel_rfl);exact (p9 z h64 hf ckP).1
theorem GZ:tys gA=EP.map (·.2):=YG.tys
theorem wC:(tys gA).length=13:=by rw [GZ];rfl
theorem Xc:eR gA=GP:=by kernel_rfl
theorem Zs:bK gA=EP:=(HF YG.hl).trans YG.bK
theorem Ti:(c9 gA).Types.map (·.Name)=NP:=by
 show ((List.range (tys gA).length).map (uu gA)).map (·.Name)=NP;rw [List.map_map,wC];have:((fun t:bu=>t.Name)∘uu gA)=fun i=>(EP.getD i ([],0)).1:=by
  funext i
  show LK gA i=_;unfold LK;rw [Zs]
 rw [this];rfl
theorem MI:(c9 gA).aR.map (·.Name)=GP:=by
 show (eP gA).map (·.Name)=GP;have:(eP gA).map (·.Name)=eR gA:=by
  unfold eP;rw [List.map_map];exact (List.map_congr_left (fun x _=>rfl)).trans (List.map_id _)
 rw [this,Xc]
theorem x331:f331 gA=some (c9 gA,0):=by
 obtain ⟨z,h64,hf⟩:=TE (d:=gA) (by kernel_rfl);rw [OO z h64 hf,if_pos ckP]
theorem ZL {h:ak} (Z:Hz h) (hn:(h.aR.map (·.Name)).Nodup) {G:List aT} (hG:h.aR.map (·.Name)=G) (hr:pz G G.length G.length h=some true):∀(xs:List aJ) (i:Nat),h.aR.drop i=xs→i≤G.length→pz G G.length i h=some true:=by
 have hl:=Z.fl;have hGl:h.aR.length=G.length:=by rw [←hG,List.length_map]
 intro xs
 induction xs with
 |nil=>
  intro i hd hi;have:i=G.length:=by have:=dM hd;omega
  subst this;exact hr
 |cons x xs ih=>
  intro i hd hi;refine Nd _ _ _ _ ?_;have hlt:=bL hd;have e:h.aR[i]=x:=(List.getElem?_eq_some_iff.1 (aW hd)).2;have MS:=MY (fun c:aJ=>c.Name) hn hlt;rw [e] at MS;have hg:G[i]? =some x.Name:=by rw [←hG,List.getElem?_map,aW hd];rfl
  rw [cond_pos (by rw [decide_eq_true_iff];omega),aL hd,dQ hg,cond_neg (by simp),dQ hg,XL Z.fl,ah,MS,cond_neg (by simp),aM hd (by omega)];exact ih (i+1) (az hd) (by omega)
theorem ZK {h:ak} (Z:Hz h) (hn:(h.Types.map (·.Name)).Nodup) {N G:List aT} (hN:h.Types.map (·.Name)=N) (hr:pz G G.length 0 h=some true):∀(xs:List bu) (i:Nat),h.Types.drop i=xs→y7 N G N.length i h=some true:=by
 have hl:=Z.tl;have hNl:h.Types.length=N.length:=by rw [←hN,List.length_map]
 intro xs
 induction xs with
 |nil=>
  intro i hd;refine Sa _ _ _ _ _ ?_;have:=dM hd;rw [cond_neg (by rw [decide_eq_false_iff_not];omega)];exact hr
 |cons x xs ih=>
  intro i hd;refine Sa _ _ _ _ _ ?_;have hlt:=bL hd;have e:h.Types[i]=x:=(List.getElem?_eq_some_iff.1 (aW hd)).2;have MS:=MY (fun c:bu=>c.Name) hn hlt;rw [e] at MS;have hg:N[i]? =some x.Name:=by rw [←hN,List.getElem?_map,aW hd];rfl
  rw [cond_pos (by rw [decide_eq_true_iff];omega),aL hd,dQ hg,cond_neg (by simp),dQ hg,XK Z.tl,ah,MS,cond_neg (by simp),aM hd (by omega)];exact ih (i+1) (az hd)
theorem y335a:f335 (c9 gA) 2 3=some (3,true):=by
 have h:=Tl (OF LR) LR.ok.wh (i:=2) (j:=3) (by rw [wC];decide) (by rw [wC];decide);rw [GZ] at h;exact h.trans (by kernel_rfl)
theorem y335b:f335 (c9 gA) 3 8=some (0,false):=by
 have h:=Tl (OF LR) LR.ok.wh (i:=3) (j:=8) (by rw [wC];decide) (by rw [wC];decide);rw [GZ] at h;exact h.trans (by kernel_rfl)
theorem y355a:f355 (c9 gA) 3 2=some (0,true):=by
 have h:=O3 LR (T:=3) (by rw [wC];decide) (j:=2) (F:=[70,73,82,83,84]) (by rw [Xc];rfl);rw [GZ,FE YG.hl (xM LR.fd)] at h;exact h.trans (by kernel_rfl)
theorem y355b:f355 (c9 gA) 8 2=some (0,false):=by
 have h:=O3 LR (T:=8) (by rw [wC];decide) (j:=2) (F:=[70,73,82,83,84]) (by rw [Xc];rfl);rw [GZ,FE YG.hl (xM LR.fd)] at h;exact h.trans (by kernel_rfl)
theorem y337:f337 (c9 gA) 3 8=some 2:=by
 have h:=Yh (OF LR) LR.ok.wh (i:=3) (j:=8) (by rw [wC];decide) (by rw [wC];decide);rw [GZ] at h;exact h.trans (by kernel_rfl)
theorem y341:f341 (c9 gA) 1=some [1,5,6,7]:=by
 have h:=Yi (OF LR) (t:=1) (by rw [wC];decide);rw [GZ] at h;exact h.trans (by kernel_rfl)
theorem y339a:f339 (c9 gA) 1 7=some true:=by
 have h:=LP (OF LR) (i:=1) (by rw [wC];decide) (j:=7) (by rw [wC];decide);rw [GZ] at h;exact h.trans (by kernel_rfl)
theorem y339b:f339 (c9 gA) 7 1=some false:=by
 have h:=LP (OF LR) (i:=7) (by rw [wC];decide) (j:=1) (by rw [wC];decide);rw [GZ] at h;exact h.trans (by kernel_rfl)
theorem ex329:f329=some true:=by
 have Z:=hz5 LR;have hT:(c9 gA).Types.length=13:=by
  have:=congrArg List.length Ti;rw [List.length_map] at this;exact this
 have hF:(c9 gA).aR.length=13:=by
  have:=congrArg List.length MI;rw [List.length_map] at this;exact this
 refine e329 ?_;rw [i326,ah,x331,ah,cond_neg (by rfl)];simp only;rw [hT,hF,cond_neg (by rfl),cond_neg (by rfl)];show y7 NP GP NP.length ((0:Nat):Int) (c9 gA)=some true;refine ZK Z (fA LR) Ti ?_ _ 0 rfl;show pz GP GP.length ((0:Nat):Int) (c9 gA)=some true;refine ZL Z (by rw [show (c9 gA).aR=eP gA from rfl];exact HP) MI ?_ _ 0 rfl (by omega);refine Nd _ _ _ _ ?_;rw [cond_neg (by simp),y335a,ah,y335b,ah,y355a,ah,y355b,ah,cond_pos (by rfl),cond_pos (by rfl),cond_pos (by rfl),y337,ah,cond_pos (by rfl),cond_pos (by rfl),cond_pos (by rfl),cond_pos (by rfl),y341,ah,c26 _ _ (by decide),ah,cond_pos (by rfl),y339a,ah,cond_true,y339b,ah];rfl
instance:nC:=⟨ex329⟩
end Go.Proofs.YtmidjldjkbljjaaGreatDoor.cl
