/- AppropLimits. -/
import Derived.Test.YtfoddgpndoeeaaaGreatDoorClSx
set_option linter.unusedVariables false
set_option linter.unusedSimpArgs false
set_option linter.unusedSectionVars false
set_option maxRecDepth 100000
namespace Go.Proofs.YtfoddgpndoeeaaaGreatDoor.cl
open Go Go.AM
theorem Rf (name super:aR):Na name super=some (name,[super]):=nP (x:=(name,[super])) (lz rfl)
def fD (i:Nat):ah:=⟨[70,UInt8.ofNat (65+i / 26),UInt8.ofNat (65+i % 26)],[116]⟩
def kD (s:Bool) (i:Nat):Nat:=bif s then 1+i % 2 else 1
def LA (s:Bool) (q i:Nat):List ah:=((List.range i).filter fun j=>Nat.beq (kD s j) q).map fD
def YS (s:Bool) (i:Nat):List (Option (List ah)):=[some [],some (LA s 1 i),some (LA s 2 i)]
def X3:List af:=[⟨[116],[],[]⟩,⟨[97],[[116]],[]⟩,⟨[98],[[116]],[]⟩]
def dL (s:Bool):List af:=[⟨[116],[],[]⟩,⟨[97],[[116]],LA s 1 64⟩,⟨[98],[[116]],LA s 2 64⟩]
def xL (s:Bool):List af:=[⟨[116],[],[⟨[71],[116]⟩]⟩,⟨[97],[[116]],LA s 1 64⟩,⟨[98],[[116]],LA s 2 64⟩]
theorem JM (s:Bool) (q i:Nat):LA s q (i+1)=if kD s i=q then LA s q i++[fD i] else LA s q i:=by
 unfold LA;rw [List.range_succ,List.filter_append,List.map_append];by_cases h:kD s i=q
 ·rw [if_pos h];simp [h]
 ·rw [if_neg h]
  have:Nat.beq (kD s i) q=false:=by
   cases hb:Nat.beq (kD s i) q with
   |false=>rfl
   |true=>exact absurd (Nat.eq_of_beq_eq_true hb) h
  simp [this]
theorem R9 (s:Bool) (q i:Nat):(LA s q i).length≤i:=by
 unfold LA;rw [List.length_map];exact Nat.le_trans (List.length_filter_le _ _) (by simp)
theorem JR {R:Type} {i:Nat} (h:i<64) (k:List UInt8→Option R):
  oK [(IntKind.wrap .u8 ((IntKind.wrap .i64 (65+(IntKind.wrap .i64 (Int.tdiv (i:Int) 26)))))),(IntKind.wrap .u8 ((IntKind.wrap .i64 (65+(Int.tmod (i:Int) 26)))))] k=k [UInt8.ofNat (65+i / 26),UInt8.ofNat (65+i % 26)]:=by
 have key:∀i:Fin 64,bytesOf ([(IntKind.wrap .u8 ((IntKind.wrap .i64 (65+(IntKind.wrap .i64 (Int.tdiv ((i:Nat):Int) 26)))))),(IntKind.wrap .u8 ((IntKind.wrap .i64 (65+(Int.tmod ((i:Nat):Int) 26)))))].map (aJ .u8))=some [UInt8.ofNat (65+i / 26),UInt8.ofNat (65+i % 26)]:=by decide
 unfold oK oJ;rw [key ⟨i,h⟩]
theorem T7 {i:Nat} (h:i<64):IntKind.wrap .i64 (1+Int.tmod (i:Int) 2)=((1+i % 2:Nat):Int):=by
 have key:∀i:Fin 64,IntKind.wrap .i64 (1+Int.tmod ((i:Nat):Int) 2)=((1+i % 2:Nat):Int):=by decide
 exact key ⟨i,h⟩
theorem Kw {R V:Type} {ys:List (Option (List V))} {i:Nat} {zs:List V} (h:ys[i]? =some (some zs)) (k:List V→List (Option (List V))→Option R):LN ys i k=k zs (ys.set i none):=by
 unfold LN;rw [h]
theorem PA (s:Bool) (i:Nat):(YS s i)[kD s i]? =some (some (LA s (kD s i) i))∧((YS s i).set (kD s i) none).set (kD s i) (some (LA s (kD s i) i++[fD i]))=YS s (i+1)∧kD s i<3:=by
 have hk:kD s i=1∨kD s i=2:=by
  unfold kD;cases s with
  |true=>simp only [cond_true];omega
  |false=>simp only [cond_false];exact .inl trivial
 unfold YS;rw [JM,JM];rcases hk with h|h<;>rw [h]<;>simp
theorem h392 (s:Bool) {r:Bool} (hr:qe s 64 X3 (YS s 64)=some r):∀(n i:Nat),i+n=64→qe s (i:Int) X3 (YS s i)=some r:=by
 intro n
 induction n with
 |zero=>
      intro i h;have:i=64:=by omega
      subst this;exact hr
 |succ n ih=>
  intro i h;have hi:i<64:=by omega
  obtain ⟨h1,h2,h3⟩:=PA s i;have Md:=R9 s (kD s i) i;refine Od _ _ _ _ ?_;rw [cond_pos (by rw [decide_eq_true_iff];omega)];have e2:=ih (i+1) (by omega);have bound:(List.length (LA s (kD s i) i)+List.length [(ah.mk ([70]++[UInt8.ofNat (65+i / 26),UInt8.ofNat (65+i % 26)]) [116])]) *32≤140737488355328∧List.length (LA s (kD s i) i)+List.length [(ah.mk ([70]++[UInt8.ofNat (65+i / 26),UInt8.ofNat (65+i % 26)]) [116])]≤4611686018427387904:=by
   simp only [List.length_singleton];omega
  cases s with
  |true=>
   rw [cond_true,bg (by decide),T7 hi,bg (⟨by omega,by simp only [Int.toNat_natCast,X3,List.length_cons,List.length_nil];omega⟩)];simp only [Int.toNat_natCast];have hk:kD true i=1+i % 2:=rfl;rw [hk] at h1 h2 h3 bound;rw [Kw h1,bg (by decide),bg (by decide),JR hi,bg (by simp),bg bound,bg (⟨by omega,by simp only [X3,List.length_cons,List.length_nil];omega⟩),bg (by simp only [YS,List.length_set,List.length_cons,List.length_nil];omega)];unfold jv;rw [cg (by omega)];show qe true _ _ (((YS true i).set (1+i % 2) none).set (1+i % 2) (some (LA true (1+i % 2) i++[fD i])))=_;rw [h2];exact e2
  |false=>
   have hk:kD false i=1:=rfl;rw [hk] at h1 h2 h3 bound;rw [cond_false,bg (⟨by decide,by decide⟩),show Int.toNat 1=1 from rfl,Kw h1,bg (by decide),bg (by decide),JR hi,bg (by simp),bg bound,bg (⟨by decide,by decide⟩),bg (by simp [YS])];unfold jv;rw [cg (by omega)];show qe false _ _ (((YS false i).set 1 none).set 1 (some (LA false 1 i++[fD i])))=_;rw [h2];exact e2
def TL:List (aR×List aR):=[([116],[[116],[97],[98]]),([97],[[97]]),([98],[[98]])]
def EL:List rO:=[([116],7),([97],1),([98],2)]
theorem atD (s:Bool):At (dL s) (Oy TL) EL:=by
 cases s
 ·exact ⟨tU (by kernel_rfl),by kernel_rfl,oO (by kernel_rfl)⟩
 ·exact ⟨tU (by kernel_rfl),by kernel_rfl,oO (by kernel_rfl)⟩
theorem atX (s:Bool):At (xL s) (Oy TL) EL:=by
 cases s
 ·exact ⟨tU (by kernel_rfl),by kernel_rfl,oO (by kernel_rfl)⟩
 ·exact ⟨tU (by kernel_rfl),by kernel_rfl,oO (by kernel_rfl)⟩
theorem ckD (s:Bool):kB (dL s)=0:=by
 cases s
 ·exact (atD false).kB.trans (by kernel_rfl)
 ·exact (atD true).kB.trans (by kernel_rfl)
theorem ckX (s:Bool):kB (xL s)=7:=by
 cases s
 ·exact (atX false).kB.trans (by kernel_rfl)
 ·exact (atX true).kB.trans (by kernel_rfl)
theorem ftD (s:Bool):(iZ (dL s)).length=64:=by cases s<;>kernel_rfl
def szC (d:List af):Bool:=Nat.ble d.length 64&&d.all fun t=>Nat.ble t.aA.length 20&&Nat.ble t.bT.length 100
theorem O8 {d:List af} (h:szC d=true):Sz d∧d.length≤64∧Fz d:=by
 unfold szC at h;rw [Bool.and_eq_true,List.all_eq_true] at h;have h0:=Nat.le_of_ble_eq_true h.1;have key:∀t∈d,t.aA.length≤20∧t.bT.length≤100:=fun t ht=>by
  have:=h.2 t ht;rw [Bool.and_eq_true] at this;exact ⟨Nat.le_of_ble_eq_true this.1,Nat.le_of_ble_eq_true this.2⟩
 exact ⟨⟨by omega,fun t ht=>by have:=(key t ht).1;omega⟩,h0,fun t ht=>by have:=(key t ht).2;omega⟩
theorem VO (s:Bool):f319 (dL s)=some (tf (dL s),0):=by
 obtain ⟨z,h64,hf⟩:=O8 (d:=dL s) (by cases s<;>kernel_rfl);rw [VN z h64 hf,if_pos (ckD s)]
theorem VM (s:Bool):f317 (xL s)=some 7:=by
 obtain ⟨z,h64,hf⟩:=O8 (d:=xL s) (by cases s<;>kernel_rfl);rw [Qp z h64 hf,ckX s]
theorem Sx (s:Bool):qe s 64 X3 (YS s 64)=some true:=by
 refine Od _ _ _ _ ?_;rw [cond_neg (by decide)];show Option.bind (f319 (dL s)) _=_;rw [VO,aj,cond_neg (by rfl),cond_neg (by rw [HK,ftD];decide),bg (by simp [dL]),bg (by simp [dL])];rw [List.nil_append,k8 (x:=⟨[116],[],[]⟩) (by rfl)];show Option.bind (f317 (xL s)) _=_;rw [VM,aj,cond_pos (by rfl),Rj];rfl
theorem Ty (s:Bool):f392 s=some true:=by
 refine e392 _ ?_;rw [Rf,aj,Rf,aj];exact h392 s (Sx s) 64 0 rfl
end Go.Proofs.YtfoddgpndoeeaaaGreatDoor.cl
