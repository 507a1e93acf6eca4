/- The types and codecs of the program, by program (decomp8.py). -/
import Derived.Test.YtbnlhmaaccgbjaaGreatDoorProg
import Derived.Test.YtbnlhmaaccgbjaaGreatDoorAmP
import Derived.Test.YtbnlhmaaccgbjaaGreatDoorAmI
import Derived.KernelRfl
set_option linter.all false
set_option maxRecDepth 100000
namespace Go.Proofs.YtbnlhmaaccgbjaaGreatDoor.cl
open Go Go.AM
noncomputable abbrev P:Program:=Tryz.prog
theorem X2 {l q:Type} {f:l->q} (h:∀a b,f a=f b->a=b:=by
 intro a b h
 (iterate 6 (try injections))<;>first
 |assumption
 |exact map_inj fC.inj _ _ ‹_›
 |(cases a;cases b;congr<;>first|assumption|exact map_inj fC.inj _ _ ‹_› |exact vN ‹_› ‹_›)):fC f:=⟨h⟩
theorem mkG {l q:Type} {f:l->q} (h:∀a b,f a=f b->a=b:=by
 intro a b h
 (iterate 6 (try injections))
 (repeat' apply p5)<;>first
 |assumption
 |exact map_inj fC.inj _ _ ‹_›
 |exact vN ‹_› ‹_›):fC f:=⟨h⟩
theorem mkK {K:vF} [DecidableEq K.T] (h:∀a b,w5 (K.enc a) (K.enc b)=some (decide (a=b)):=by
 intro a b;simp only[w5,fW]
 first|rfl|(congr 1;first|rfl|(rw[je];simp))):Ip K:=⟨λa b=>⟨inferInstance,h a b⟩⟩
def yj (l:List UInt8):List (List UInt8)->List UInt8
 |[]=>[]
 |[x]=>x
 |x::xs=>x++l++yj l xs
abbrev EntW:=List UInt8×Nat
def EntW.enc (p:EntW):List AV:=[.str p.1, .dD 1 (bif Nat.beq p.2 0 then[] else[[.int .u64 (p.2:Int)]])]
def strs:List (List AV)->Option (List (List UInt8))
 |[]=>some []
 |[.str s]::l=>(strs l).map (s:: ·)
 |_=>none
def Bg:List (List AV)->Option (List (Int×Int))
 |[]=>some []
 |[.int .i64 f, .int .i64 t]::l=>(Bg l).map ((f,t):: ·)
 |_=>none
def R2 (p:Int×Int):List AV:=[.int .i64 p.1, .int .i64 p.2]
def VV (p q:Int×Int):Bool:=decide (p.1<q.1)
def Bf:List (Int×Int)->Bool
 |[]=>true
 |x::l=>l.all (λy=>VV x y||VV y x)&&Bf l
def Mj (a b:List UInt8):Int:=bif Op.bytesLess a b then-1 else bif a==b then 0 else 1
def aez:List AV:=[.str [], .int .i64 0, .str [], .dD 1 [], .dD 4 [], .dD 4 []]
abbrev V3:vF:=⟨Int,AV.int .i64⟩
instance:fC V3.enc:=X2
instance:Ip V3:=mkK
abbrev V4:vF:=⟨Bool,AV.bool⟩
instance:fC V4.enc:=X2
instance:Ip V4:=mkK
abbrev V9:vF:=⟨List UInt8,AV.str⟩
instance:fC V9.enc:=X2
instance:Ip V9:=mkK
structure dV where
 bN:List UInt8
 Value:List UInt8
 deriving Inhabited
def dV.enc (x:dV):List AV:=[.str x.bN, .str x.Value]
instance:fC dV.enc:=X2
structure aC where
 Name:List UInt8
 dW:List (List UInt8)
 bJ:List dV
 deriving Inhabited
def aC.enc (x:aC):List AV:=[.str x.Name, .dD 1 (List.map oO x.dW), .dD 2 (List.map dV.enc x.bJ)]
instance:fC aC.enc:=X2
inductive aQ where
 |mk (Op:Int) (Name:List UInt8) (Path:List (List UInt8)) (Kids:List aQ)
def aQ.Op:aQ->Int
 | .mk x _ _ _=>x
def aQ.Name:aQ->List UInt8
 | .mk _ x _ _=>x
def aQ.Path:aQ->List (List UInt8)
 | .mk _ _ x _=>x
def aQ.Kids:aQ->List aQ
 | .mk _ _ _ x=>x
mutual
def aQ.ga:aQ->List AV
 | .mk a b c d=>[.int .i64 a, .str b, .dD 1 (List.map oO c), .dD 4 (aQ.EK d)]
def aQ.EK:List aQ->List (List AV)
 |[]=>[]
 |x::l=>aQ.ga x::aQ.EK l
end
def aQ.enc (x:aQ):List AV:=[.int .i64 x.Op, .str x.Name, .dD 1 (List.map oO x.Path), .dD 4 (List.map aQ.ga x.Kids)]
instance:Inhabited aQ:=⟨.mk 0 [] [] []⟩
mutual
theorem aQ.injX:∀(a b:aQ),aQ.ga a=aQ.ga b->a=b
 | .mk a0 a1 a2 a3, .mk b0 b1 b2 b3,h=>by simp only[aQ.ga,cS,AV.int.injEq,AV.str.injEq,AV.bool.injEq,AV.dD.injEq,eE,eH] at h;obtain⟨h0,h1,h2,h3⟩:=h;replace h3:=aQ.injXs _ _ h3;replace h2:=map_inj fC.inj _ _ h2;subst h0 h1 h2 h3;rfl
theorem aQ.injXs:∀(a b:List aQ),aQ.EK a=aQ.EK b->a=b
 |[],[],_=>rfl
 |[],_::_,h=>by simp[aQ.EK] at h
 |_::_,[],h=>by simp[aQ.EK] at h
 |x::l,y::m,h=>by simp only[aQ.EK,cS] at h;rw[aQ.injX x y h.1,aQ.injXs l m h.2]
end
def aQ.R3 (l:List aQ):aQ.EK l=l.map aQ.ga:=by induction l with
 |nil=>rfl
 |cons x l q=>simp[aQ.EK,q]
def aQ.jm:aQ.ga=aQ.enc:=by funext x;cases x;simp only[aQ.ga,aQ.enc,aQ.R3];rfl
instance:fC aQ.ga:=⟨aQ.injX⟩
instance:fC aQ.enc:=⟨λa b h=>aQ.injX a b (by rw[aQ.jm];exact h)⟩
structure Def where
 Name:List UInt8
 jH:aQ
 eS:List aQ
 deriving Inhabited
def Def.enc (x:Def):List AV:=[.str x.Name, .int .i64 x.jH.Op, .str x.jH.Name, .dD 1 (List.map oO x.jH.Path), .dD 4 (List.map aQ.ga x.jH.Kids), .dD 4 (List.map aQ.ga x.eS)]
def Def.inj:∀(a b:Def),Def.enc a=Def.enc b->a=b:=by intro a b h;obtain⟨O,L,F⟩:=a;obtain⟨G,q,w,l⟩:=L;obtain⟨Q,N,I⟩:=b;obtain⟨K,B,D,z⟩:=N;simp only[Def.enc,cS,AV.int.injEq,AV.str.injEq,AV.bool.injEq,AV.dD.injEq,AV.mp.injEq,eE,eH] at h;obtain⟨V,h1,h2,R,S,U⟩:=h;replace R:=map_inj fC.inj _ _ R;replace S:=map_inj fC.inj _ _ S;replace U:=map_inj fC.inj _ _ U;change O=Q at V;change G=K at h1;change q=B at h2;change w=D at R;change l=z at S;change F=I at U;subst V h1 h2 R S U;rfl
instance:fC Def.enc:=⟨Def.inj⟩
structure cD where
 bN:Int
 To:Int
 deriving Inhabited
def cD.enc (x:cD):List AV:=[.int .i64 x.bN, .int .i64 x.To]
instance:fC cD.enc:=X2
structure Node where
 dU:Int
 cu:List cD
 deriving Inhabited
def Node.enc (x:Node):List AV:=[.int .i64 x.dU, .dD 2 (List.map cD.enc x.cu)]
instance:fC Node.enc:=X2
structure FSt where
 aA:List Node
 deriving Inhabited
def FSt.enc (x:FSt):List AV:=[.dD 2 (List.map Node.enc x.aA)]
instance:fC FSt.enc:=X2
structure Case where
 Decls:List aC
 Defs:List Def
 X:aQ
 Y:aQ
 F:FSt
 deriving Inhabited
def Case.enc (x:Case):List AV:=[.dD 3 (List.map aC.enc x.Decls), .dD 6 (List.map Def.enc x.Defs), .int .i64 x.X.Op, .str x.X.Name, .dD 1 (List.map oO x.X.Path), .dD 4 (List.map aQ.ga x.X.Kids), .int .i64 x.Y.Op, .str x.Y.Name, .dD 1 (List.map oO x.Y.Path), .dD 4 (List.map aQ.ga x.Y.Kids), .dD 2 (List.map Node.enc x.F.aA)]
def Case.inj:∀(a b:Case),Case.enc a=Case.enc b->a=b:=by intro a b h;obtain⟨w,V,aX,aY,aF⟩:=a;obtain⟨aXOp,B,D,z⟩:=aX;obtain⟨aYOp,G,I,F⟩:=aY;obtain⟨l⟩:=aF;obtain⟨K,bDefs,bX,bY,bF⟩:=b;obtain⟨bXOp,N,O,L⟩:=bX;obtain⟨bYOp,R,S,Q⟩:=bY;obtain⟨q⟩:=bF;simp only[Case.enc,cS,AV.int.injEq,AV.str.injEq,AV.bool.injEq,AV.dD.injEq,AV.mp.injEq,eE,eH] at h;obtain⟨h0,h1,h2,h3,h4,h5,h6,h7,h8,h9,U⟩:=h;replace h0:=map_inj fC.inj _ _ h0;replace h1:=map_inj fC.inj _ _ h1;replace h4:=map_inj fC.inj _ _ h4;replace h5:=map_inj fC.inj _ _ h5;replace h8:=map_inj fC.inj _ _ h8;replace h9:=map_inj fC.inj _ _ h9;replace U:=map_inj fC.inj _ _ U;change w=K at h0;change V=bDefs at h1;change aXOp=bXOp at h2;change B=N at h3;change D=O at h4;change z=L at h5;change aYOp=bYOp at h6;change G=R at h7;change I=S at h8;change F=Q at h9;change l=q at U;subst h0 h1 h2 h3 h4 h5 h6 h7 h8 h9 U;rfl
instance:fC Case.enc:=⟨Case.inj⟩
structure fV where
 bN:Int
 Value:Int
 deriving Inhabited
def fV.enc (x:fV):List AV:=[.int .i64 x.bN, .int .i64 x.Value]
instance:fC fV.enc:=X2
structure fO where
 Name:List UInt8
 Code:List Int
 dW:List Int
 bJ:List fV
 deriving Inhabited
def fO.enc (x:fO):List AV:=[.str x.Name, .dD 1 (List.map (dS .u64) x.Code), .dD 1 (List.map (dS .i64) x.dW), .dD 2 (List.map fV.enc x.bJ)]
instance:fC fO.enc:=X2
structure cU where
 Name:List UInt8
 Intro:Int
 deriving Inhabited
def cU.enc (x:cU):List AV:=[.str x.Name, .int .i64 x.Intro]
instance:fC cU.enc:=X2
structure aN where
 Types:List fO
 bJ:List cU
 deriving Inhabited
def aN.enc (x:aN):List AV:=[.dD 4 (List.map fO.enc x.Types), .dD 2 (List.map cU.enc x.bJ)]
def aN.inj:∀(a b:aN),aN.enc a=aN.enc b->a=b:=by intro a b h;obtain⟨q,l⟩:=a;obtain⟨z,w⟩:=b;simp only[aN.enc,cS,AV.int.injEq,AV.str.injEq,AV.bool.injEq,AV.dD.injEq,AV.mp.injEq,eE,eH] at h;obtain⟨B,D⟩:=h;replace B:=map_inj fC.inj _ _ B;replace D:=map_inj fC.inj _ _ D;change q=z at B;change l=w at D;subst B D;rfl
instance:fC aN.enc:=⟨aN.inj⟩
structure Template where
 Name:List UInt8
 jH:FSt
 eS:List FSt
 deriving Inhabited
def Template.enc (x:Template):List AV:=[.str x.Name, .dD 2 (List.map Node.enc x.jH.aA), .dD 1 (List.map FSt.enc x.eS)]
def Template.inj:∀(a b:Template),Template.enc a=Template.enc b->a=b:=by intro a b h;obtain⟨F,B,w⟩:=a;obtain⟨l⟩:=B;obtain⟨G,D,z⟩:=b;obtain⟨q⟩:=D;simp only[Template.enc,cS,AV.int.injEq,AV.str.injEq,AV.bool.injEq,AV.dD.injEq,AV.mp.injEq,eE,eH] at h;obtain⟨L,I,K⟩:=h;replace I:=map_inj fC.inj _ _ I;replace K:=map_inj fC.inj _ _ K;change F=G at L;change l=q at I;change w=z at K;subst L I K;rfl
instance:fC Template.enc:=⟨Template.inj⟩
structure fQ where
 Name:List UInt8
 Code:List Int
 deriving Inhabited
def fQ.enc (x:fQ):List AV:=[.str x.Name, .dD 1 (List.map (dS .u64) x.Code)]
instance:fC fQ.enc:=X2
structure dF where
 a0:Int
 a1:Int
 deriving Inhabited
def dF.enc (x:dF):List AV:=[.int .i64 x.a0, .int .i64 x.a1]
instance:fC dF.enc:=X2
structure tag where
 Name:List UInt8
 Path:List Int
 deriving Inhabited
def tag.enc (x:tag):List AV:=[.str x.Name, .dD 1 (List.map (dS .i64) x.Path)]
instance:fC tag.enc:=X2
structure world where
 h:aN
 list:Int
 cons:Int
 null:Int
 dlist:Int
 first:Int
 rest:Int
 head:Int
 last:Int
 deriving Inhabited
def world.enc (x:world):List AV:=[.dD 4 (List.map fO.enc x.h.Types), .dD 2 (List.map cU.enc x.h.bJ), .int .i64 x.list, .int .i64 x.cons, .int .i64 x.null, .int .i64 x.dlist, .int .i64 x.first, .int .i64 x.rest, .int .i64 x.head, .int .i64 x.last]
def world.inj:∀(a b:world),world.enc a=world.enc b->a=b:=by intro a b h;obtain⟨ah,N,I,O,B,D,Q,K,L⟩:=a;obtain⟨q,l⟩:=ah;obtain⟨bh,V,R,bnull,F,G,brest,S,U⟩:=b;obtain⟨z,w⟩:=bh;simp only[world.enc,cS,AV.int.injEq,AV.str.injEq,AV.bool.injEq,AV.dD.injEq,AV.mp.injEq,eE,eH] at h;obtain⟨h0,h1,h2,h3,h4,h5,h6,h7,h8,h9⟩:=h;replace h0:=map_inj fC.inj _ _ h0;replace h1:=map_inj fC.inj _ _ h1;change q=z at h0;change l=w at h1;change N=V at h2;change I=R at h3;change O=bnull at h4;change B=F at h5;change D=G at h6;change Q=brest at h7;change K=S at h8;change L=U at h9;subst h0 h1 h2 h3 h4 h5 h6 h7 h8 h9;rfl
instance:fC world.enc:=⟨world.inj⟩
structure state where
 F:FSt
 OK:Bool
 Tags:List tag
 deriving Inhabited
def state.enc (x:state):List AV:=[.dD 2 (List.map Node.enc x.F.aA), .bool x.OK, .dD 2 (List.map tag.enc x.Tags)]
def state.inj:∀(a b:state),state.enc a=state.enc b->a=b:=by intro a b h;obtain⟨K,F,w⟩:=a;obtain⟨l⟩:=K;obtain⟨L,G,z⟩:=b;obtain⟨q⟩:=L;simp only[state.enc,cS,AV.int.injEq,AV.str.injEq,AV.bool.injEq,AV.dD.injEq,AV.mp.injEq,eE,eH] at h;obtain⟨B,I,D⟩:=h;replace B:=map_inj fC.inj _ _ B;replace D:=map_inj fC.inj _ _ D;change l=q at B;change F=G at I;change w=z at D;subst B I D;rfl
instance:fC state.enc:=⟨state.inj⟩
abbrev C96:F7:=⟨aC,aC.enc⟩
abbrev C66:F7:=⟨Def,Def.enc⟩
abbrev C9:F7:=⟨List UInt8,oO⟩
abbrev C27:F7:=⟨aQ,aQ.enc⟩
abbrev C64:F7:=⟨Node,Node.enc⟩
abbrev C91:F7:=⟨fO,fO.enc⟩
abbrev C147:F7:=⟨cU,cU.enc⟩
abbrev C70:F7:=⟨Template,Template.enc⟩
abbrev C61:F7:=⟨cD,cD.enc⟩
abbrev C30:F7:=⟨FSt,FSt.enc⟩
abbrev C89:F7:=⟨List (fV),(kR 2 fV.enc)⟩
abbrev C86:F7:=⟨fQ,fQ.enc⟩
abbrev C230:F7:=⟨Int,(dS .u64)⟩
abbrev C3:F7:=⟨Int,(dS .i64)⟩
abbrev C136:F7:=⟨fV,fV.enc⟩
abbrev C149:F7:=⟨dV,dV.enc⟩
abbrev C62:F7:=⟨List (cD),(kR 2 cD.enc)⟩
abbrev C84:F7:=⟨List (Int),(kR 1 (dS .u64))⟩
abbrev C183:F7:=⟨dF,dF.enc⟩
abbrev C265:F7:=⟨tag,tag.enc⟩
abbrev C87:F7:=⟨List (Int),(kR 1 (dS .i64))⟩
abbrev C4:F7:=⟨Bool,Xc⟩
abbrev C5:F7:=⟨Int,(dS .u8)⟩
abbrev Uk:vF:=⟨List Int,pL 1 (dS .i64)⟩
abbrev Q0:=pA aN.enc
abbrev Q1:=pP (pL 3 Template.enc) (AV.bool)
abbrev Q2:=AV.bool
abbrev Q3:=pA aQ.enc
abbrev Q4:=AV.int .i64
abbrev Q5:=pP (pA FSt.enc) (AV.int .i64)
abbrev Q6:=pL 4 aQ.ga
abbrev Q7:=pP (pA FSt.enc) (AV.bool)
abbrev Q8:=pP (pA aN.enc) (AV.int .i64)
abbrev Q9:=pL 3 aC.enc
abbrev Q10:=pP (pL 3 Template.enc) (AV.int .i64)
abbrev Q11:=pP (pL 1 (kR 2 fV.enc)) (AV.int .i64)
abbrev Q12:=pP (pL 2 fQ.enc) (AV.int .i64)
abbrev Q13:=pA aC.enc
abbrev Q14:=pL 1 (dS .i64)
abbrev Q15:=pU
abbrev Q16:=pA FSt.enc
abbrev Q17:=pL 1 oO
abbrev Q18:=pP (pL 2 cU.enc) (AV.int .i64)
abbrev Q19:=pP (pA Template.enc) (AV.int .i64)
abbrev Q20:=pP (AV.int .i64) (AV.bool)
abbrev Q21:=pP (pL 1 (dS .i64)) (AV.bool)
abbrev Q22:=pL 1 (dS .u64)
abbrev Q23:=pL 1 (kR 1 (dS .u64))
abbrev Q24:=pW 3 1 (dS .i64)
abbrev Q25:=pW 64 2 Node.enc
abbrev Q26:=pP (AV.str) (AV.bool)
abbrev Q27:=pP (pL 1 (dS .u64)) (AV.bool)
abbrev Q28:=AV.str
abbrev Q29:=pP (pA world.enc) (AV.int .i64)
abbrev Q30:=pP (pL 1 (dS .u64)) (AV.int .i64)
abbrev Q31:=AV.int .u64
abbrev Q32:=pL 2 Node.enc
abbrev Q33:=pF 302 cD.enc
abbrev Q34:=pW 61 2 cD.enc
abbrev R28.T:Type:=List Int
def elems:List (Nat×F7):=[(96,C96),(66,C66),(9,C9),(27,C27),(64,C64),(91,C91),(147,C147),(70,C70),(61,C61),(30,C30),(89,C89),(86,C86),(230,C230),(3,C3),(136,C136),(149,C149),(62,C62),(84,C84),(183,C183),(265,C265),(87,C87),(4,C4),(5,C5)]
def vals:List (Nat×vF):=[(3,V3),(4,V4),(9,V9),(87,Uk)]
def ress:List (Nat×vF):=[(3,⟨_,Q2⟩),(4,⟨_,Q2⟩),(5,⟨_,Q0⟩),(6,⟨_,Q1⟩),(7,⟨_,Q4⟩),(8,⟨_,Q3⟩),(9,⟨_,Q2⟩),(10,⟨_,Q5⟩),(11,⟨_,Q3⟩),(12,⟨_,Q2⟩),(13,⟨_,Q2⟩),(14,⟨_,Q6⟩),(15,⟨_,Q7⟩),(16,⟨_,Q8⟩),(17,⟨_,Q9⟩),(18,⟨_,Q2⟩),(19,⟨_,Q2⟩),(20,⟨_,Q10⟩),(21,⟨_,Q4⟩),(26,⟨_,Q5⟩),(27,⟨_,Q4⟩),(28,⟨_,Q7⟩),(29,⟨_,Q7⟩),(30,⟨_,Q11⟩),(31,⟨_,Q12⟩),(32,⟨_,Q14⟩),(33,⟨_,Q18⟩),(34,⟨_,Q13⟩),(35,⟨_,Q2⟩),(36,⟨_,Q2⟩),(37,⟨_,Q2⟩),(38,⟨_,Q4⟩),(39,⟨_,Q19⟩),(40,⟨_,Q4⟩),(41,⟨_,Q4⟩),(42,⟨_,Q2⟩),(45,⟨_,Q20⟩),(49,⟨_,Q2⟩),(50,⟨_,Q2⟩),(51,⟨_,Q14⟩),(52,⟨_,Q15⟩),(53,⟨_,Q2⟩),(54,⟨_,Q16⟩),(55,⟨_,Q2⟩),(56,⟨_,Q25⟩),(57,⟨_,Q4⟩),(58,⟨_,Q17⟩),(59,⟨_,Q27⟩),(60,⟨_,Q4⟩),(61,⟨_,Q4⟩),(62,⟨_,Q17⟩),(63,⟨_,Q22⟩),(64,⟨_,Q23⟩),(65,⟨_,Q28⟩),(66,⟨_,Q2⟩),(67,⟨_,Q2⟩),(68,⟨_,Q26⟩),(69,⟨_,Q4⟩),(70,⟨_,Q2⟩),(71,⟨_,Q4⟩),(72,⟨_,Q4⟩),(73,⟨_,Q17⟩),(74,⟨_,Q5⟩),(76,⟨_,Q2⟩),(77,⟨_,Q2⟩),(78,⟨_,Q2⟩),(79,⟨_,Q2⟩),(83,⟨_,Q4⟩),(92,⟨_,Q20⟩),(93,⟨_,Q4⟩),(98,⟨_,Q4⟩),(99,⟨_,Q5⟩),(100,⟨_,Q4⟩),(101,⟨_,Q2⟩),(102,⟨_,Q2⟩),(103,⟨_,Q2⟩),(104,⟨_,Q2⟩),(105,⟨_,Q2⟩),(106,⟨_,Q2⟩),(107,⟨_,Q14⟩),(108,⟨_,Q21⟩),(109,⟨_,Q2⟩),(110,⟨_,Q20⟩),(111,⟨_,Q4⟩),(112,⟨_,Q4⟩),(113,⟨_,Q2⟩),(114,⟨_,Q20⟩),(115,⟨_,Q4⟩),(116,⟨_,Q17⟩),(117,⟨_,Q26⟩),(118,⟨_,Q22⟩),(119,⟨_,Q22⟩),(120,⟨_,Q2⟩),(121,⟨_,Q4⟩),(122,⟨_,Q4⟩),(123,⟨_,Q4⟩),(124,⟨_,Q17⟩),(125,⟨_,Q17⟩),(126,⟨_,Q2⟩),(127,⟨_,Q30⟩),(128,⟨_,Q2⟩),(129,⟨_,Q2⟩),(130,⟨_,Q2⟩),(131,⟨_,Q17⟩),(132,⟨_,Q4⟩),(133,⟨_,Q2⟩),(134,⟨_,Q2⟩),(135,⟨_,Q2⟩),(137,⟨_,Q7⟩),(138,⟨_,Q2⟩),(146,⟨_,Q16⟩),(147,⟨_,Q16⟩),(151,⟨_,Q7⟩),(152,⟨_,Q4⟩),(153,⟨_,Q2⟩),(154,⟨_,Q5⟩),(155,⟨_,Q4⟩),(156,⟨_,Q4⟩),(157,⟨_,Q7⟩),(158,⟨_,Q24⟩),(159,⟨_,Q22⟩),(160,⟨_,Q2⟩),(161,⟨_,Q2⟩),(162,⟨_,Q31⟩),(163,⟨_,Q4⟩),(164,⟨_,Q2⟩),(165,⟨_,Q17⟩),(166,⟨_,Q17⟩),(167,⟨_,Q14⟩),(168,⟨_,Q22⟩),(169,⟨_,Q2⟩),(170,⟨_,Q2⟩),(171,⟨_,Q4⟩),(172,⟨_,Q2⟩),(173,⟨_,Q4⟩),(178,⟨_,Q14⟩),(180,⟨_,Q2⟩),(181,⟨_,Q2⟩),(194,⟨_,Q29⟩),(195,⟨_,Q2⟩),(196,⟨_,Q5⟩),(197,⟨_,Q5⟩),(198,⟨_,Q22⟩),(199,⟨_,Q2⟩),(200,⟨_,Q2⟩),(201,⟨_,Q2⟩),(202,⟨_,Q2⟩),(203,⟨_,Q7⟩),(204,⟨_,Q7⟩),(205,⟨_,Q20⟩),(206,⟨_,Q20⟩),(216,⟨_,Q2⟩),(218,⟨_,Q4⟩),(219,⟨_,Q16⟩),(220,⟨_,Q31⟩),(221,⟨_,Q7⟩),(222,⟨_,Q16⟩),(223,⟨_,Q16⟩),(224,⟨_,Q20⟩),(256,⟨_,Q15⟩),(257,⟨_,Q34⟩),(258,⟨_,Q33⟩),(260,⟨_,Q32⟩),(261,⟨_,Q14⟩),(262,⟨_,Q14⟩),(263,⟨_,Q24⟩),(264,⟨_,Q21⟩),(265,⟨_,Q16⟩),(303,⟨_,Q20⟩),(304,⟨_,Q20⟩),(305,⟨_,Q16⟩),(338,⟨_,Q15⟩),(339,⟨_,Q34⟩)]
abbrev Rl.T:Type:=(List fO)×(List cU)×(List Template)×(List Node)×(List ((List UInt8)×(List Int)))
def Rl:Rl.T->Out:=(λx:(List fO)×(List cU)×(List Template)×(List Node)×(List ((List UInt8)×(List Int)))=>((.iQ [.iQ [.self 0, .rD,(.self 25000)]],[(25000,(.box 109 [(.pv (.dD 4 (List.map fO.enc x.1))),(.pv (.dD 2 (List.map cU.enc x.2.1))),(.pv (.dD 3 (List.map Template.enc x.2.2.1))),(.row 25001),(.pv (.dD 2 (List.map Node.enc x.2.2.2.1)))])),(25001,(.mp 9 87 (fA V9 Uk x.2.2.2.2).1 (fA V9 Uk x.2.2.2.2).2))]):Out))
instance:fC Rl:=⟨λa b h=>by
 obtain⟨F,G,I,K,L⟩:=a;obtain⟨N,O,Q,R,S⟩:=b;simp only[Rl,ck,cS,AV.iQ.injEq,AV.agg.injEq,AV.dD.injEq,AV.int.injEq,AV.bool.injEq,AV.str.injEq,Ob.row.injEq,Ob.rn.injEq,Ob.box.injEq,Ob.mp.injEq,SV.pv.injEq,eH,eE,rO] at h;obtain⟨l,q,w,z,B,D⟩:=h
 rw[map_inj fC.inj _ _ l,map_inj fC.inj _ _ q,map_inj fC.inj _ _ w,map_inj fC.inj _ _ z,vN (K:=V9) (V:=Uk) B D]⟩
abbrev D8.T:Type:=Node
def D8:D8.T->Out:=(λx:Node=>((.iQ [.iQ [.self 0, .rD,(.agg [(.self 25000)])]],[(25000,(.rn 64 2 1 61 2 (List.map (kF Node.enc 1) [x]) (qg cD.enc [some x.cu])))]):Out))
instance:fC D8:=⟨λa b h=>by
 simp only[D8,ck,cS,AV.iQ.injEq,AV.agg.injEq,AV.dD.injEq,AV.int.injEq,AV.bool.injEq,AV.str.injEq,Ob.row.injEq,Ob.rn.injEq,Ob.box.injEq,Ob.mp.injEq,SV.pv.injEq,eH,eE,rO] at h;obtain⟨q,l⟩:=h
 exact(List.cons.inj (Wv (sub:=λx=>x.cu) (x:=[_]) (y:=[_]) (λa b l w=>by cases a;cases b;simp_all[kF,Node.enc]) q l)).1⟩
abbrev tF.T:Type:=(List Node)×Bool×(List Template)×(List tag)
def tF:tF.T->Out:=(λx:(List Node)×Bool×(List Template)×(List tag)=>((.iQ [.iQ [.self 0, .rD,(.agg [(.dD 2 (List.map Node.enc x.1)),(.bool x.2.1),(.self 20001)])]],[(10000,(.row 70 3 (List.map Template.enc x.2.2.1))),(20001,(.row 265 2 (List.map tag.enc x.2.2.2)))]):Out))
instance:fC tF:=mkG
abbrev D9.T:Type:=(List (List UInt8))
def D9:D9.T->Out:=(λx:(List (List UInt8))=>((.iQ [.iQ [.self 0, .rD,(.self 20000)]],[(20000,(.row 9 1 (List.map oO x)))]):Out))
instance:fC D9:=mkG
abbrev CP.T:Type:=(List Node)×Bool×(List tag)
def CP:CP.T->Out:=(λx:(List Node)×Bool×(List tag)=>((.iQ [.iQ [.self 0, .rD,(.agg [(.dD 2 (List.map Node.enc x.1)),(.bool x.2.1),(.self 20000)])]],[(20000,(.row 265 2 (List.map tag.enc x.2.2)))]):Out))
instance:fC CP:=mkG
abbrev Il.T:Type:=(List Node)×Bool×(List tag)
def Il:Il.T->Out:=(λx:(List Node)×Bool×(List tag)=>((.iQ [.iQ [.self 0, .rD,(.agg [(.dD 2 (List.map Node.enc x.1)),(.bool x.2.1),(.self 20000)])]],[(20000,(.row 265 2 (List.map tag.enc x.2.2)))]):Out))
instance:fC Il:=mkG
abbrev N3.T:Type:=(List Node)×Bool×(List tag)
def N3:N3.T->Out:=(λx:(List Node)×Bool×(List tag)=>((.iQ [.iQ [.self 0, .rD,(.agg [(.dD 2 (List.map Node.enc x.1)),(.bool x.2.1),(.self 20000)])]],[(20000,(.row 265 2 (List.map tag.enc x.2.2)))]):Out))
instance:fC N3:=mkG
abbrev x6.T:Type:=(List Node)×Bool×(List Template)×(List tag)
def x6:x6.T->Out:=(λx:(List Node)×Bool×(List Template)×(List tag)=>((.iQ [.iQ [.self 0, .rD,(.agg [(.dD 2 (List.map Node.enc x.1)),(.bool x.2.1),(.self 20001)])]],[(10000,(.row 70 3 (List.map Template.enc x.2.2.1))),(20001,(.row 265 2 (List.map tag.enc x.2.2.2)))]):Out))
instance:fC x6:=mkG
abbrev N4.T:Type:=(List Node)×Bool×(List tag)
def N4:N4.T->Out:=(λx:(List Node)×Bool×(List tag)=>((.iQ [.iQ [.self 0, .rD,(.agg [(.dD 2 (List.map Node.enc x.1)),(.bool x.2.1),(.self 20000)])]],[(20000,(.row 265 2 (List.map tag.enc x.2.2)))]):Out))
instance:fC N4:=mkG
abbrev Rm.T:Type:=(List Node)
def Rm:Rm.T->Out:=(λx:(List Node)=>((.iQ [.iQ [.self 0, .rD,(.self 20000)]],[(20000,(.row 64 2 (List.map Node.enc x)))]):Out))
instance:fC Rm:=mkG
abbrev Io.T:Type:=Int×(List Node)
def Io:Io.T->Out:=(λx:Int×(List Node)=>((.iQ [.iQ [.self 0, .rD,(.iQ [(.agg [(.self 25000)]),(.int .i64 x.1)])]],[(25000,(.rn 64 2 1 61 2 (List.map (kF Node.enc 1) x.2) (qg cD.enc (List.map (λx=>some x.cu) x.2))))]):Out))
instance:fC Io:=⟨λa b h=>by
 obtain⟨z,B⟩:=a;obtain⟨D,F⟩:=b;simp only[Io,ck,cS,AV.iQ.injEq,AV.agg.injEq,AV.dD.injEq,AV.int.injEq,AV.bool.injEq,AV.str.injEq,Ob.row.injEq,Ob.rn.injEq,Ob.box.injEq,Ob.mp.injEq,SV.pv.injEq,eH,eE,rO] at h;obtain⟨w,l,q⟩:=h
 rw[w,Wv (λa b l q=>by cases a;cases b;simp_all[kF,Node.enc]) l q]⟩
abbrev AY.T:Type:=(Template×Int)×(List Template)
def AY:AY.T->Out:=(λx:(Template×Int)×(List Template)=>((Q19 x.1,[(10000, .row 70 3 (List.map Template.enc x.2))]):Out))
instance:fC AY:=⟨λa b h=>by
 obtain⟨w,z⟩:=a;obtain⟨B,D⟩:=b;simp only[AY,ck,cS,Ob.row.injEq,Ob.mp.injEq,Ob.lp.injEq,Ob.box.injEq,eH,eE] at h;obtain⟨l,q⟩:=h
 rw[fC.inj _ _ l,map_inj fC.inj _ _ q]⟩
abbrev CT.T:Type:=(FSt×Int)×(List Template)
def CT:CT.T->Out:=(λx:(FSt×Int)×(List Template)=>((Q5 x.1,[(10000, .row 70 3 (List.map Template.enc x.2))]):Out))
instance:fC CT:=⟨λa b h=>by
 obtain⟨w,z⟩:=a;obtain⟨B,D⟩:=b;simp only[CT,ck,cS,Ob.row.injEq,Ob.mp.injEq,Ob.lp.injEq,Ob.box.injEq,eH,eE] at h;obtain⟨l,q⟩:=h
 rw[fC.inj _ _ l,map_inj fC.inj _ _ q]⟩
def outs:List (Nat×CodO):=[(3000000,⟨Rl.T,Rl⟩),(3004160,⟨AY.T,AY⟩),(3008256,⟨CT.T,CT⟩),(3012288,⟨D8.T,D8⟩),(3016512,⟨tF.T,tF⟩),(3020544,⟨CT.T,CT⟩),(3024640,⟨D9.T,D9⟩),(3028736,⟨D9.T,D9⟩),(3032832,⟨CP.T,CP⟩),(3036928,⟨Il.T,Il⟩),(3041024,⟨N3.T,N3⟩),(3045184,⟨x6.T,x6⟩),(3049216,⟨CP.T,CP⟩),(3053376,⟨x6.T,x6⟩),(3057472,⟨tF.T,tF⟩),(3061504,⟨CP.T,CP⟩),(3065664,⟨x6.T,x6⟩),(3069696,⟨CP.T,CP⟩),(3073792,⟨N4.T,N4⟩),(3077888,⟨D9.T,D9⟩),(3081920,⟨D8.T,D8⟩),(3086080,⟨Il.T,Il⟩),(3090240,⟨tF.T,tF⟩),(3094336,⟨tF.T,tF⟩),(3098368,⟨D9.T,D9⟩),(3102464,⟨Rm.T,Rm⟩),(3106560,⟨N4.T,N4⟩),(3110592,⟨D8.T,D8⟩),(3114752,⟨Il.T,Il⟩),(3118848,⟨CP.T,CP⟩),(3123008,⟨tF.T,tF⟩),(3126976,⟨D8.T,D8⟩),(3131136,⟨Io.T,Io⟩),(3135232,⟨Io.T,Io⟩)]
def sV:lK:={ out:=Hy outs,elem:=Hy elems,val:=Hy vals,res:=Hy ress }
def dB:List Nat:=[10000,10001,10002,10003,10004,10005,10006,10007,10008,20000,20001,20002,20003,20004,20005,20006,20007,20008,20009,20010,20011]
abbrev eL (n:Nat):List Nat:=[n,Nat.add n 1,Nat.add n 2,Nat.add n 3,Nat.add n 4,Nat.add n 5]
def hints:List (Nat×Hint):=[
 (4,{ rows:=[50],use:=[58] }),
 (8,{ loops:=[(5,[1,2,3,4],[1,2,3])],rows:=[3],mw:=[(8,[3])] }),
 (9,{ owns:=[112,129],use:=[112,129],vj:=[(112,0,[]),(129,0,[])] }),
 (10,{ owns:=[10],use:=[9],bx:=[5160],vj:=[(10,3000000,[])] }),
 (11,{ loops:=[(3,[1,2,3,4],[1,2,3,5]),(9,[1,2,3,5,6],[1,2,3,5])],rows:=[3,5],mw:=[(13,[3,5])] }),
 (13,{ loops:=[(4,[1,3],[1])] }),
 (16,{ loops:=[(7,[0,2,4,6,8,9],[2,8]++eL 5128)],rows:=[8],mK:=[4,6],mw:=[(12,eL 5128)] }),
 (18,{ loops:=[(4,[0,3],[])] }),
 (20,{ loops:=[(5,[1,2,7],[2,7]),(11,[7,10],[7,10]),(14,[7,10,11,12],[7,10])],rows:=[7,10],owns:=[32],vj:=[(32,3004096,[])] }),
 (21,{ loops:=[(11,[2,5,6],[2])] }),
 (22,{ loops:=[(7,[8,9,27,28,29],[5416,5417])],mK:=[8],fT:=[55],stay:=[55,63],owns:=[26,55,63],use:=[62],vj:=[(26,0,[]),(63,0,[0])] }),
 (23,{ owns:=[15],use:=[14],vj:=[(15,0,[])] }),
 (24,{ rows:=[5,6],own:=true,Pn:=[(4,[1])],nest:=[(5,1,61,2)] }),
 (25,{ rows:=[8],own:=true,Pn:=[(8,[0,1,2,4])] }),
 (26,{ rows:=[18],use:=[18],bx:=[10000] }),
 (27,{ loops:=[(4,[5,6,7],[])] }),
 (28,{ rows:=[10] }),
 (29,{ loops:=[(3,[3,4,6,16,17,18],[2,3,4,10,14,68]++eL 5160++eL 5208++eL 6104),(9,[3,4,6,9],[2,3,4,10,14,68]++eL 5160++eL 5208++eL 6104),(15,[4,6,10,72,73],[2,4,10,14,68]++eL 5160++eL 5208++eL 6104)],rows:=[10,13,69],mw:=[(19,[68]++eL 5160++eL 6104)],stay:=[68],owns:=[68] }),
 (30,{ loops:=[(8,[0,5,7,8,9],[8]),(12,[0,5,7,8,9,10,11],[8,10])],rows:=[8,10],mK:=[5,7,12],mw:=[(17,[10])] }),
 (31,{ loops:=[(7,[0,5,6,7],[6]),(15,[0,5,6,8,9,10],[6]),(19,[0,5,6,8,9,10,11,12],[6,11])],rows:=[6,13],mK:=[5,8,9] }),
 (32,{ loops:=[(3,[0,1,5,6],[5]),(8,[0,1,5,6,7,8],[5])],rows:=[5] }),
 (33,{ loops:=[(8,[0,5,7,8,9],[8])],rows:=[8],mK:=[5,7] }),
 (34,{ loops:=[(5,[2,6,7,8],[6,7,14]++eL 5112++eL 5160)],rows:=[7,10,14],mw:=[(8,[14]++eL 5112++eL 5160)] }),
 (35,{ loops:=[(4,[1,3],[1])] }),
 (37,{ loops:=[(4,[1,3],[1])] }),
 (38,{ loops:=[(2,[0,3],[]),(7,[0,4],[]),(11,[0,4,5,6],[]),(16,[0,7],[7])],rows:=[7] }),
 (39,{ loops:=[(6,[1,3,5,6,10,11],[3,5,6,8,10]++eL 5160++eL 5496++eL 10000),(14,[1,6,10,14,15],[6,8,10]++eL 5160++eL 5496++eL 10000)],rows:=[10,31],mK:=[14],mw:=[(17,eL 5160++eL 5496)],owns:=[21,47,62],vj:=[(21,3008192,[]),(47,3020480,[]),(62,3024576,[1])] }),
 (40,{ loops:=[(3,[0,1,5,6],[])] }),
 (41,{ loops:=[(2,[0,1,5],[])] }),
 (42,{ loops:=[(6,[1,3],[1])] }),
 (43,{ loops:=[(5,[4,5,18,19,20],[5,14,17]),(12,[4,5,32,33,34],[5,14,17]),(19,[4,10,11],[10,11,14,43])],rows:=[11],fT:=[15,40,47,48,65],stay:=[14,16,41,49,69],owns:=[14] }),
 (44,{ loops:=[(6,[0,3,4,7,9,30,31,32],[3,4,7,9]++dB),(14,[0,4,7,9,53,54,55],[4,7,9,5857]++dB)],rows:=[9],owns:=[53],vj:=[(53,0,[1])] }),
 (45,{ stay:=[11] }),
 (46,{ rows:=[6],fT:=[91],stay:=[14,19,25,30,40,45,54,67,77,82,88,93],own:=true }),
 (47,{ rows:=[2,5],stay:=[7],own:=true }),
 (48,{ loops:=[(4,[6,7,8,19,20,21],[6,16]),(8,[6,7,8,19,20,21,29,30,31],[6,16])],fT:=[18],bx:=[16] }),
 (49,{ loops:=[(14,[2,3,48,49,50],[2,3]++dB)],fT:=[64],bx:=[10000] }),
 (50,{ fT:=[83],bx:=[10000] }),
 (51,{ loops:=[(3,[1,3,4],[1,10]),(8,[1,3,4,5,6],[1,10])],rows:=[10] }),
 (52,{ loops:=[(2,[0,4,15,16,17],dB),(8,[0,4,7,15,16,17,46,47,48],[6,7]++dB)],rows:=[7],mw:=[(12,[7])] }),
 (53,{ loops:=[(3,[3,7,8],[3,7,15]++eL 5112++dB)],rows:=[7,15],fT:=[16] }),
 (54,{ loops:=[(3,[1,2,4,5,16,17],[2,4,5,7,14]++eL 5080++eL 5112++dB)],rows:=[5,7,14],fT:=[24],mw:=[(11,eL 5112)] }),
 (55,{ loops:=[(2,[0,2,4,18,19,20],[4]++dB),(8,[0,2,44,45,46],dB)] }),
 (56,{ rows:=[2,5],stay:=[7],own:=true }),
 (57,{ loops:=[(11,[0,3,5,7],[]),(17,[0,3,5,10],[]),(20,[0,3,5,10,11],[])],mK:=[3,5,12] }),
 (58,{ loops:=[(3,[0,3,4],[]),(6,[0,3,4,5],[])],mK:=[3] }),
 (59,{ loops:=[(4,[0,1,2,3,10,11,12],[])],mK:=[11] }),
 (60,{ loops:=[(3,[0,5,6],[])],mK:=[5] }),
 (61,{ loops:=[(12,[0,6,7],[])] }),
 (62,{ loops:=[(3,[0,3,4],[])],mK:=[3] }),
 (63,{ loops:=[(4,[1,7,8,9],[8])],rows:=[8],mK:=[7,10] }),
 (64,{ loops:=[(3,[3,4],[7]),(6,[3,4,5],[7])],rows:=[7],mK:=[6] }),
 (65,{ loops:=[(3,[0,1,2,3,9,10],[9]),(12,[9,11,12],[9])],rows:=[9] }),
 (68,{ loops:=[(3,[0,1,6,7],[])],mK:=[6,10] }),
 (69,{ loops:=[(2,[0,1,5],[])] }),
 (71,{ loops:=[(4,[1,2,3,7],[3]),(10,[1,2,3,8,9],[3])] }),
 (72,{ loops:=[(2,[0,1,5],[])] }),
 (73,{ loops:=[(3,[1,3,4],[1,5121])],fT:=[20],owns:=[7,21],vj:=[(7,3028672,[1]),(21,3077824,[1])] }),
 (74,{ rows:=[20],owns:=[19,22],use:=[19],vj:=[(19,3012288,[]),(22,3016384,[])] }),
 (75,{ loops:=[(4,[1,2,5],[2]++eL 10000++eL 20000)],rows:=[4],fT:=[33],owns:=[34],own:=true,vj:=[(34,3098304,[1])] }),
 (76,{ loops:=[(3,[0,5,6],[])] }),
 (79,{ loops:=[(13,[1,3,4],[1])] }),
 (80,{ rows:=[2,5],stay:=[7],own:=true }),
 (81,{ fT:=[4],stay:=[6,8] }),
 (84,{ stay:=[7] }),
 (85,{ loops:=[(3,[4,16,17,18],[1,5192,5193])],mK:=[3,7,8],owns:=[12,24],vj:=[(12,0,[]),(24,0,[])] }),
 (87,{ loops:=[(2,[0,1,7,8],dB)],stay:=[7,16] }),
 (88,{ fT:=[6],stay:=[7] }),
 (90,{ stay:=[12,19,26,29] }),
 (91,{ loops:=[(4,[1,23,24,25],[2]++eL 10000++eL 20000)],rows:=[4],fT:=[30],stay:=[14],owns:=[31],own:=true,vj:=[(31,0,[1])] }),
 (92,{ loops:=[(3,[0,1,2,8,9,10],dB)],stay:=[13,30,46] }),
 (95,{ fT:=[4],stay:=[6,9] }),
 (97,{ loops:=[(3,[1,3,12,13,14],[1,3]),(9,[3,6,36,37,38],[3,6])],rows:=[3] }),
 (98,{ stay:=[8] }),
 (100,{ loops:=[(2,[1,8,9,10],[2])] }),
 (101,{ bx:=[10001,10002] }),
 (102,{ bx:=[10001] }),
 (103,{ bx:=[10000] }),
 (106,{ bx:=[10002] }),
 (107,{ loops:=[(3,[0,7,12,13,14],[11]++dB)],stay:=[11],owns:=[11] }),
 (108,{ loops:=[(2,[0,2,10,11,12],dB)],bx:=[10000] }),
 (109,{ loops:=[(8,[0,2,3,9,10,11],[11]++dB)],rows:=[11],mK:=[9,10],use:=[150] }),
 (110,{ stay:=[29] }),
 (111,{ loops:=[(1,[0,1],dB)] }),
 (112,{ loops:=[(9,[3,4,7,8,49,50,51],[8]++dB)],rows:=[8],use:=[69] }),
 (114,{ loops:=[(2,[2,15,16,17],[])] }),
 (115,{ loops:=[(3,[0,3,4],[]),(7,[0,3,4,5,6],[]),(12,[0,3,4,5,6,7],[])],mK:=[3,5] }),
 (116,{ loops:=[(3,[0,1,5,6],[5])],rows:=[5] }),
 (117,{ loops:=[(2,[1,2,6],[2])] }),
 (118,{ loops:=[(3,[0,1,5,6],[5])],rows:=[5] }),
 (119,{ loops:=[(2,[0,3],[])],rows:=[18] }),
 (120,{ loops:=[(4,[0,1,5],[])] }),
 (121,{ loops:=[(4,[0,3],[])] }),
 (122,{ loops:=[(2,[0,3],[])] }),
 (123,{ loops:=[(2,[0,3],[]),(6,[0,3,4,5],[])],mK:=[4] }),
 (124,{ loops:=[(3,[0,3,4],[3]),(7,[0,3,4,5,6],[3])],rows:=[3] }),
 (125,{ loops:=[(5,[0,5,6],[15]),(8,[0,5,6,7],[15]),(14,[5,8,9],[15])],rows:=[15],mK:=[8] }),
 (126,{ loops:=[(2,[0,1,5],[])] }),
 (127,{ loops:=[(3,[0,4,5],[6])],rows:=[6] }),
 (128,{ loops:=[(2,[0,1,5],[])] }),
 (131,{ loops:=[(4,[0,5,6,7],[5]),(9,[0,5,6,7,8,9,10],[5])],rows:=[5],mK:=[6,8] }),
 (134,{ loops:=[(4,[0,1,5],[])] }),
 (135,{ loops:=[(12,[1,3,5,7],[3,5]),(17,[1,3,5,8],[3,5])] }),
 (136,{ loops:=[(11,[1,3,5,7,9,10,11,12],[5,7,9,10]++eL 10000++eL 20000),(18,[1,5,7,9,10,13,14],[5,7,9,10,72]++eL 10000++eL 20000)],rows:=[72],owns:=[29,43,51,68,100,109,117,129,145,149,160,169,177],use:=[26,34,48,62,95,106,108,116,123,128,138,148,157,159,168,172,176],own:=true,vj:=[(29,3032768,[]),(43,3036864,[]),(51,3040960,[]),(68,3090112,[]),(100,3094208,[]),(109,3045056,[]),(117,3049152,[]),(129,3053248,[]),(145,3057344,[]),(149,3061440,[]),(160,3065536,[]),(169,3069632,[]),(177,3073728,[])] }),
 (137,{ loops:=[(3,[2,3,4,6,7],[2,3,4,6,13]++eL 5208),(7,[2,3,4,6,8],[2,3,4,6,13]++eL 5208),(10,[2,3,4,6,9,10],[2,3,4,6,13]++eL 5208),(14,[2,3,4,6,9,10,11,12],[2,3,4,6,13]++eL 5208),(21,[3,4,6,13,14],[3,4,6,13]++eL 5208)],rows:=[6,13,32],mK:=[9],fT:=[55],mw:=[(24,eL 5208)] }),
 (138,{ loops:=[(2,[0,1,5],[])] }),
 (139,{ loops:=[(2,[0,1,2,6,7,8],dB),(7,[0,1,2,6],dB),(9,[0,1,2,6,7,8],dB)],fT:=[14,23,36,55],stay:=[18,27,43,60] }),
 (141,{ loops:=[(2,[0,1,7,8],dB)],stay:=[7,16] }),
 (142,{ loops:=[(6,[4,5,13,14,15],[4,5,13]++eL 5064++eL 5080)],rows:=[2,3,4,5],fT:=[9,13,21,26],stay:=[22,27],own:=true }),
 (143,{ stay:=[7] }),
 (144,{ fT:=[6,10,12],stay:=[7,11,13] }),
 (145,{ rows:=[9] }),
 (146,{ loops:=[(3,[0,3,4,5,13,14,15],[3,4,5]++eL 5080),(8,[0,4,5,33,34,35],[3,4,5]++eL 5080),(12,[0,4,5,10,33,34,35,43,44,45],[3,4,5,9,10]++eL 5080++eL 5160++eL 5656)],rows:=[5,10,41],mw:=[(16,eL 5160++eL 5656),(18,eL 5080)] }),
 (148,{ loops:=[(3,[2,3,8,9],[2,3,5]++eL 5048++eL 5112)],rows:=[3,7],mw:=[(7,eL 5048++eL 5112)] }),
 (149,{ loops:=[(3,[3,9,10,11],[1]),(6,[3,9,10,11,16,17,18],[1,5])] }),
 (150,{ loops:=[(4,[3,4,13,14,15],[1,4]),(7,[3,4,5,13,14,15,21,22,23],[1,4,6])],rows:=[4],mK:=[9],stay:=[31,42],owns:=[31] }),
 (151,{ rows:=[22] }),
 (152,{ loops:=[(2,[0,1,7,8],dB)],stay:=[7,16] }),
 (156,{ loops:=[(2,[0,1,7,8],dB)],bx:=[10001,10002] }),
 (158,{ rows:=[2,5],stay:=[7],own:=true }),
 (159,{ loops:=[(3,[0,1,5,14,15],[12])],rows:=[12] }),
 (163,{ loops:=[(2,[0,1,5],[])] }),
 (164,{ loops:=[(2,[1,2,5],[2])] }),
 (165,{ loops:=[(3,[0,1,5,6],[])],mK:=[5] }),
 (166,{ loops:=[(5,[0,5,6],[16]),(9,[0,5,6,7,8],[16]),(15,[5,9,10],[16])],rows:=[16],mK:=[7,9] }),
 (167,{ loops:=[(3,[0,3,4],[3])],rows:=[3] }),
 (168,{ loops:=[(3,[0,1,5,6],[5])],rows:=[5] }),
 (171,{ loops:=[(2,[1,2,5],[2])] }),
 (173,{ loops:=[(2,[1,2,5],[2])] }),
 (174,{ owns:=[15,16],use:=[11,15],own:=true,vj:=[(15,3081920,[]),(16,3086016,[])] }),
 (175,{ own:=true }),
 (176,{ loops:=[(2,[2,3,4,5,8,9],[4,5,8]++eL 20000)],owns:=[34,46,47],use:=[32,33,45,46],own:=true,vj:=[(34,3106496,[]),(46,3110592,[]),(47,3114688,[])] }),
 (177,{ loops:=[(2,[1,3,4,5,7,10,11],[5,7,10]++eL 10000++eL 20000)],owns:=[27,39],use:=[26,34],own:=true,vj:=[(27,3118784,[]),(39,3122880,[])] }),
 (178,{ loops:=[(2,[1,2,7],[8])],rows:=[8] }),
 (179,{ own:=true }),
 (181,{ loops:=[(2,[0,1,5],[])] }),
 (182,{ loops:=[(1,[0,1,2,3,8],dB),(4,[0,1,2,3,8,9],dB)],stay:=[32] }),
 (183,{ loops:=[(3,[0,1,4,10,11],dB),(9,[0,10,13],dB),(15,[0,2,4,14,15],dB),(21,[0,14,17],dB),(33,[0,1,2,3,4,18,19,20,21,22],dB)],fT:=[186,200,214],stay:=[49,101,169,191,205,219] }),
 (185,{ loops:=[(7,[3,24,25,26],[4]++dB)] }),
 (186,{ fT:=[5],stay:=[4,9,10] }),
 (187,{ loops:=[(4,[0,3],[10000]),(9,[0,3,4,5],[10000])],mK:=[4],stay:=[7,12,31] }),
 (188,{ loops:=[(2,[0,1,7,8],[])],stay:=[7] }),
 (189,{ loops:=[(1,[0,2,3],[10000])],stay:=[5] }),
 (192,{ loops:=[(12,[2,6,7,8,40,41,42],[2,8]++eL 5128++eL 5624)],rows:=[8,39],mK:=[4,6,7],mw:=[(16,eL 5128++eL 5624)] }),
 (193,{ loops:=[(4,[0,1,12,13],[])],stay:=[7,9,12] }),
 (195,{ loops:=[(2,[1,7,8,9],[])] }),
 (196,{ loops:=[(3,[2,3,6,8,12,13,14],[3,6,8]++eL 5128)],rows:=[8],fT:=[45],mw:=[(10,eL 5128)],owns:=[48],use:=[47],vj:=[(48,3102400,[0])] }),
 (197,{ loops:=[(6,[1,2,18,19,20],[1,2])] }),
 (198,{ loops:=[(2,[0,3],[])] }),
 (199,{ loops:=[(2,[1,7,8,9],[])] }),
 (206,{ loops:=[(3,[2,8,9],[])],mK:=[8] }),
 (207,{ loops:=[(2,[0,2,4,10,11],dB)],fT:=[24,35,50],stay:=[31,46,57] }),
 (208,{ loops:=[(2,[0,1,2,3,8,9],[10000])],fT:=[24,30,36,51,69,88,95,117,127],stay:=[27,33,39,46,54,72,85,92,99,121,132] }),
 (210,{ loops:=[(4,[0,1,3,4,5,6],[12,15,16]++dB),(8,[0,1,3,4,5,6,42,43,44],[12,15,16]++dB)],rows:=[12,15,16],stay:=[68],owns:=[68],use:=[72] }),
 (212,{ loops:=[(6,[4,6,20,21,22],[6])],rows:=[6] }),
 (214,{ loops:=[(10,[0,5,6,9,34,35,36],[9]),(18,[0,5,6,9,12,14,34,35,36,53,54,55],[9,12,14])],rows:=[9,14],mK:=[5,6,7],fT:=[77] }),
 (215,{ loops:=[(3,[1,2,5,6,12,13],[2,5,6]),(9,[2,5,6,30,31,32],[2,5,6])],rows:=[5,6],mw:=[(8,[2])] }),
 (217,{ loops:=[(3,[0,5,13,14,15],eL 10000++eL 20000),(7,[0,5,8,13,14,15,23,24,25],[7,8]++eL 5128++eL 5336++eL 10000++eL 20000)],rows:=[4,8,21],mw:=[(11,eL 5128++eL 5336)],own:=true }),
 (218,{ loops:=[(5,[1,5,13,14,15],[2,11])] }),
 (219,{ loops:=[(8,[2,4,5,8,22,23,24],[2,4,5,6,8,13,20]++eL 5096++eL 5128++eL 5336),(12,[2,4,5,8,9,10,11,22,23,24,38,39],[2,4,5,6,8,13,20,36]++eL 5096++eL 5128++eL 5336)],rows:=[6,8,20,21],fT:=[14],mw:=[(16,[36]),(18,[20]++eL 5128++eL 5336)],stay:=[35,36],owns:=[36] }),
 (221,{ owns:=[20],use:=[20] }),
 (222,{ loops:=[(3,[0,3,4,5,6],[3,4,5]++eL 5080),(7,[0,3,4,5,7],[3,4,5]++eL 5080),(12,[0,3,4,5,7,8,9,10],[3,4,5,8]++eL 5080++eL 5128++eL 5704)],rows:=[5,8,44],mw:=[(15,eL 5128++eL 5704),(16,eL 5080)] }),
 (223,{ rows:=[38],mw:=[(3,[5304])],owns:=[11,13,19,27],use:=[12,18,27,38],vj:=[(11,3126976,[]),(13,3131072,[]),(19,3135168,[])] }),
 (224,{ loops:=[(2,[1,2,6],[2])] }),
 (225,{ loops:=[(1,[0,1,2,3,10],dB)] }),
 (226,{ loops:=[(1,[0,1,2,6],[10000]),(4,[0,1,2,6,7],[10000])],stay:=[29] }),
 (227,{ loops:=[(4,[0,6,7,8,9],[10000]),(8,[0,6,7,10],[10000])],fT:=[22,51],stay:=[26,55] }),
 (228,{ loops:=[(5,[0,1,6,7,8,9],[7,10000])],stay:=[19,36] }),
 (229,{ stay:=[37,40,43,48] }),
 (230,{ loops:=[(2,[0,6,7],[10000])] }),
 (231,{ loops:=[(3,[0,1,2,7,8],[10000]),(5,[0,1,2,7,8],[10000]),(14,[0,1,2,7,8,9],[10000]),(20,[0,1,2,7,8,10],[10000])],stay:=[30,77,115] }),
 (233,{ loops:=[(3,[0,1,9,10],[10000]),(5,[0,1,9,10],[10000])],stay:=[41,58] }),
 (234,{ loops:=[(3,[0,1,10,11],[10000]),(5,[0,1,10,11],[10000]),(13,[0,1,10,11],[10000]),(15,[0,1,10,11],[10000])],stay:=[42,58,111,127] }),
 (238,{ loops:=[(6,[4,6,24,25,26],[21,23]++eL 5352)],rows:=[22],mK:=[4],mw:=[(8,[8])],stay:=[38] }),
 (239,{ loops:=[(11,[0,5,20,21,22],[])] }),
 (240,{ loops:=[(3,[0,4,15,16,17],[4]),(10,[0,4,7,32,33,34],[4,31]),(14,[0,4,7,8,10,32,33,34,41,42,43],[4,10,31])],rows:=[4,10,31],fT:=[27] }),
 (241,{ loops:=[(5,[5,6,13,14,15],[4,5,11]++eL 5080),(10,[5,6,9],[4,5,11]++eL 5080),(13,[5,6,9,10],[4,5,11]++eL 5080)],rows:=[5],mK:=[8],fT:=[12] }),
 (242,{ loops:=[(2,[1,7,8,9],dB)],mK:=[6] }),
 (244,{ loops:=[(3,[3,6,7,8],[3]),(5,[3,4,5,6,7,8],[3])],rows:=[3] }),
 (245,{ loops:=[(12,[0,1,5,39,40,41],[]),(22,[1,8,63,64,65],[8]++eL 5128)],rows:=[8] }),
 (246,{ loops:=[(5,[5,6,7,17,18,19],[7])],rows:=[7],mK:=[5] }),
 (247,{ fT:=[7],stay:=[6,11,13] }),
 (249,{ loops:=[(3,[3,6,7,8],[])] }),
 (251,{ loops:=[(3,[3,6,7,8],[])] }),
 (255,{ stay:=[7] }),
 (256,{ loops:=[(3,[2,4,25,26,27],[25]++dB)],stay:=[24,25],owns:=[25] }),
 (257,{ rows:=[4],fT:=[8],stay:=[7,10],own:=true }),
 (260,{ loops:=[(3,[0,1,5,6],[9]),(7,[0,1,5,6,7,8],[7,9]++eL 5112++eL 5368)],rows:=[7,9,23],mw:=[(10,eL 5112++eL 5368)] }),
 (261,{ loops:=[(5,[0,1,5,6,7,8],[7,20,23]),(11,[5,6,7,9],[7,20,23]),(17,[5,6,7,9,10,11,12],[7,20,23]),(23,[5,6,7,9,10,11,13,14],[7,20,23,112])],rows:=[7,23,112],owns:=[20],use:=[158] }),
 (262,{ loops:=[(5,[7,8,9,10],[29])],rows:=[29] }),
 (263,{ loops:=[(3,[0,3,4],[3])],rows:=[2,3],mvs:=[2,3],own:=true }),
 (264,{ loops:=[(3,[1,2,3,8,9],[3,15]),(10,[1,2,8,12],[15])],rows:=[15] }),
 (265,{ loops:=[(3,[0,1,2,3,8,9,10],[8,9]++eL 5144),(7,[0,1,3,8,9,11],[8,9]++eL 5144),(11,[0,1,3,8,9,11,12,13],[8,9]++eL 5144)],rows:=[9],mw:=[(17,eL 5144)],take:=[79],Pn:=[(29,[1])],nest:=[(5128,1,61,2),(5144,1,61,2)] }),
 (266,{ loops:=[(3,[1,2,4,6,7],[2,4,9000,9001,9002]++eL 20000)],own:=true,take:=[45],Pn:=[(33,[1])],nest:=[(5064,1,61,2)] }),
 (267,{ loops:=[(1,[0,2,3,8],[10000])],stay:=[35,51] }),
 (268,{ stay:=[5] }),
 (270,{ stay:=[14] }),
 (271,{ stay:=[16,24,32] }),
 (273,{ mK:=[8],fT:=[30] }),
 (274,{ loops:=[(2,[0,1,7,8],dB)],stay:=[7,16] }),
 (276,{ loops:=[(3,[0,3,19,20,21],[15]++dB),(6,[0,3,19,20,21,26,27,28],[5,15]++dB),(14,[0,3,43,44,45],[15]++dB),(17,[0,3,9,43,44,45,50,51,52],[9,15]++dB),(29,[0,82],[82]++dB)],fT:=[100],stay:=[66,101] }),
 (277,{ loops:=[(2,[1,10,11,12],[1]++dB)],fT:=[20],stay:=[18,21] }),
 (278,{ loops:=[(2,[0,15,16],dB),(7,[0,4,5,15,16,25,26,27],[4]++dB)],rows:=[4],mK:=[8],mw:=[(16,[4])],stay:=[21] }),
 (280,{ loops:=[(3,[3,9,10,11],[8])] }),
 (281,{ loops:=[(3,[3,12,13,14],[]),(6,[3,5,12,13,14,19,20,21],[5])],mK:=[8] }),
 (282,{ loops:=[(5,[3,4,5,18,19,20],[5,16,17]),(11,[3,4,5,7,18,19,20,40,41,42],[5,7,16,17]),(17,[3,4,5,10],[5,10,16,17]),(22,[3,4,5,10,71,72,73],[5,10,16,17])],rows:=[5,10,17,46,48],fT:=[62],mw:=[(16,[17])] }),
 (283,{ loops:=[(3,[1,5,15,16,17],[14]),(9,[1,5,7,15,16,17,34,35,36],[7,14])],rows:=[14,30,40,42],mK:=[8],mw:=[(14,[14])] }),
 (284,{ loops:=[(3,[0,1,6,7,8],[])],stay:=[11,27,47,50] }),
 (285,{ loops:=[(3,[0,4,10,11,12],[]),(11,[7,30,31,32],[29])],rows:=[29] }),
 (287,{ loops:=[(3,[3,11,12,13],[10]),(6,[3,5,6,11,12,13],[10])],rows:=[10] }),
 (292,{ loops:=[(4,[5,6,13,14,15],[6])],rows:=[6],mK:=[9],fT:=[31,33] }),
 (293,{ loops:=[(3,[3,9,10,11],[8])] }),
 (294,{ loops:=[(7,[0,7,8,9],[20,24]),(10,[0,7,8,9,36,37,38],[20,24])],rows:=[24],mK:=[5],fT:=[53] }),
 (296,{ loops:=[(2,[0,1,2,3,4,10,11],dB)],fT:=[26,33,40,57,76,98,106,129,140],stay:=[30,37,44,52,61,80,94,103,111,134,146] }),
 (299,{ loops:=[(2,[0,1,7,8],dB)],stay:=[7,16] }),
 (300,{ stay:=[4] }),
 (301,{ fT:=[7],stay:=[6,11,13] }),
 (302,{ loops:=[(1,[0,5,6,7],dB)],stay:=[6,13] }),
 (303,{ loops:=[(2,[0,1,6],[])] }),
 (304,{ loops:=[(3,[2,8,9],[])] }),
 (305,{ loops:=[(3,[1,2,4,5,6],[2,4,7,14]++eL 5112++eL 5208),(9,[2,4,5,7,8],[2,4,7,14]++eL 5112++eL 5208),(14,[2,4,5,7,8,9,10,11],[2,4,7,9,14,56]++eL 5112++eL 5208)],rows:=[7,13],mw:=[(17,[56]),(18,eL 5112)],owns:=[56] }),
 (306,{ stay:=[18] }),
 (309,{ loops:=[(1,[0,1,4],[10000])] }),
 (310,{ loops:=[(11,[0,1,3,4,10,11,12,13,14,15,16],[12,10000]),(18,[0,1,3,4,10,11,12,13,17],[12,10000])] }),
 (312,{ stay:=[7] }),
 (314,{ loops:=[(3,[0,3,5,11,12,13],[3,5]++dB)],rows:=[5],mw:=[(2,[3])],stay:=[20] }),
 (315,{ fT:=[6],stay:=[7] }),
 (317,{ loops:=[(4,[1,2,5,6,16,17,18],[2,5,11]++dB),(8,[1,2,5,6,16,17,18,36,37,38],[2,5,8,11]++dB)],fT:=[12],stay:=[33],keep:=[10001,10002,10003,10004] }),
 (319,{ stay:=[7] }),
 (322,{ loops:=[(5,[0,3,4],[])],stay:=[6,14,23] }),
 (323,{ loops:=[(5,[0,1,5,6],dB)],stay:=[10,18,28] }),
 (327,{ mK:=[4] }),
 (328,{ loops:=[(1,[0,1,2,3,8],dB),(4,[0,1,2,3,8,9],dB)],stay:=[32] }),
 (329,{ loops:=[(4,[0,3,8,9,10,11],dB),(8,[0,3,8,9,12],dB)],fT:=[24,54],stay:=[29,59] }),
 (330,{ loops:=[(5,[0,1,8,9,10,11],[9]++dB)],stay:=[21,38] }),
 (331,{ stay:=[40,44,48,54] }),
 (332,{ loops:=[(2,[0,8,9],dB)] }),
 (333,{ loops:=[(3,[0,1,2,3,9,10],dB),(5,[0,1,2,3,9,10],dB),(14,[0,1,2,3,9,10,11],dB),(20,[0,1,2,3,9,10,12],dB)],stay:=[33,82,122] }),
 (334,{ loops:=[(3,[0,1,4,11,12],dB),(5,[0,1,4,11,12],dB)],stay:=[44,63] }),
 (335,{ loops:=[(3,[0,1,4,12,13],dB),(5,[0,1,4,12,13],dB),(13,[0,1,4,12,13],dB),(15,[0,1,4,12,13],dB)],stay:=[45,63,118,136] }),
 (337,{ loops:=[(2,[0,1,2,3,4,10,11],dB)],fT:=[26,33,40,57,76,98,106,129,140],stay:=[30,37,44,52,61,80,94,103,111,134,146] }),
 (338,{ loops:=[(4,[0,4,5],dB)],mK:=[4],owns:=[36] }),
 (339,{ loops:=[(3,[0,3,4],[3,6]),(6,[0,3,4,5],[3,6])],rows:=[2,3,6],mvs:=[2,3,6],own:=true }),
 (344,{ loops:=[(4,[1,16],[16]++dB)] }),
 (346,{ loops:=[(2,[0,1,7,8],dB)],stay:=[7,16] }),
 (348,{ mK:=[4,5],stay:=[10] }),
 (350,{ loops:=[(2,[1,7,8,9],dB)] }),
 (352,{ loops:=[(2,[0,1,7,8],dB)],stay:=[7,16] }),
 (356,{ loops:=[(1,[0,2,3,4,10],dB)],stay:=[38,56] }),
 (357,{ stay:=[17] }),
 (358,{ stay:=[19,28,37] }),
 (359,{ loops:=[(1,[0,1,2,3,8],dB),(4,[0,1,2,3,8,9],dB)],stay:=[32] }),
 (360,{ loops:=[(4,[0,3,8,9,10,11],dB),(8,[0,3,8,9,12],dB)],fT:=[24,54],stay:=[29,59] }),
 (361,{ loops:=[(5,[0,1,8,9,10,11],[9]++dB)],stay:=[21,38] }),
 (362,{ stay:=[40,44,48,54] }),
 (363,{ loops:=[(2,[0,8,9],dB)] }),
 (364,{ loops:=[(3,[0,1,2,3,9,10],dB),(5,[0,1,2,3,9,10],dB),(14,[0,1,2,3,9,10,11],dB),(20,[0,1,2,3,9,10,12],dB)],stay:=[33,82,122] }),
 (365,{ loops:=[(3,[0,1,4,11,12],dB),(5,[0,1,4,11,12],dB)],stay:=[44,63] }),
 (366,{ loops:=[(3,[0,1,4,12,13],dB),(5,[0,1,4,12,13],dB),(13,[0,1,4,12,13],dB),(15,[0,1,4,12,13],dB)],stay:=[45,63,118,136] }),
 (369,{ stay:=[21] }),
 (370,{ loops:=[(1,[0,2,3,4,10],dB)],stay:=[38,56] }),
 (371,{ stay:=[17] }),
 (372,{ stay:=[19,28,37] }),
 (373,{ stay:=[21] })]
def H (f:Nat):Hint:=(find hints f).getD {}
def gI:eN:=λf args cL=>match f,args,cL with
 |158,[.pv (.dD 1 xs)],[]=>bif Nat.ble (xs.length *8) 140737488355328 then some (.iQ [.iQ [.self 3, .dD 1 xs]],[]) else none
 |56,[.pv (.dD 2 xs)],[]=>bif Nat.ble (xs.length *32) 140737488355328 then some (.iQ [.iQ [.self 64, .dD 2 xs]],[]) else none
 |47,[.pv (.dD 3 xs)],[]=>bif Nat.ble (xs.length *64) 140737488355328 then some (.iQ [.iQ [.self 70, .dD 3 xs]],[]) else none
 |80,[.pv (.dD 6 xs)],[]=>bif Nat.ble (xs.length *112) 140737488355328 then some (.iQ [.iQ [.self 66, .dD 6 xs]],[]) else none
 |186,[.row 10000],[(10000, .row 9 1 xs)]=>match strs xs with
  |some l=>bif Nat.ble l.length 1073741824 then some (.iQ [],[(10000, .row 9 1 ((tO Op.bytesLess l).map oO))]) else none
  |none=>none
 |257,[.pv (.fn 302 [.ref [.dD 2 xs]]), .pv (.fn 259 [])],[]=>match Bg xs with
  |some l=>bif Bf l&&Nat.ble l.length 1073741824 then some (.iQ [.iQ [.self 61, .dD 2 ((tO VV l).map R2)]],[]) else none
  |none=>none
 |83,[.pv (.str a), .pv (.str b)],[]=>some (.int .i64 (Mj a b),[])
 |90,[.row 10000, .pv (.int .i64 i), .pv (.int .i64 j)],[(10000, .row e 6 xs)]=>bif decide (0<=i)&&decide (i<j)&&decide (j<=xs.length)&&Nat.beq e 66 then some (.self (xs.length-(j-i).toNat),[(10000, .row e 6 (xs.take i.toNat++xs.drop j.toNat++List.replicate (j-i).toNat aez))]) else none
 |_,_,_=>none
noncomputable abbrev Rn:eN:=run P H gI
instance:Jr Node Node.enc:=⟨⟩
instance:Jr FSt FSt.enc:=⟨⟩
instance:Jr aC aC.enc:=⟨⟩
instance:Jr fO fO.enc:=⟨⟩
instance:Jr cU cU.enc:=⟨⟩
instance:Jr cD cD.enc:=⟨⟩
instance:Jr dV dV.enc:=⟨⟩
instance:Jr fQ fQ.enc:=⟨⟩
instance:Jr fV fV.enc:=⟨⟩
instance:Jr dF dF.enc:=⟨⟩
instance:Jr Template Template.enc:=⟨⟩
instance:Jr tag tag.enc:=⟨⟩
instance:Jr Def Def.enc:=⟨⟩
instance:Jr aQ aQ.enc:=⟨⟩
instance:Jr (List cD) (kR 2 cD.enc):=⟨⟩
instance:Jr (List fV) (kR 2 fV.enc):=⟨⟩
instance {x:fO}:En x.Code (dS .u64):=⟨⟩
instance {x:fQ}:En x.Code (dS .u64):=⟨⟩
instance {Name:List UInt8} {Path:List Int} {l q:AV} [w:Rw (AV.str Name) l] [z:Rw (AV.dD 1 (List.map (dS .i64) Path)) q]:Rw (tag.enc ⟨Name,Path⟩) [l,q]:=⟨by rw[<-w.e,<-z.e];rfl⟩
instance {l:Int} {q:Int} {w z:AV} [B:Rw (AV.int .i64 l) w] [D:Rw (AV.int .i64 q) z]:Rw (cD.enc ⟨l,q⟩) [w,z]:=⟨by rw[<-B.e,<-D.e];rfl⟩
instance {l:Int} {q:List cD} {w z:AV} [B:Rw (AV.int .i64 l) w] [D:Rw (AV.dD 2 (List.map cD.enc q)) z]:Rw (Node.enc ⟨l,q⟩) [w,z]:=⟨by rw[<-B.e,<-D.e];rfl⟩
instance:Gn Rl:=⟨⟩
instance:Gn D8:=⟨⟩
instance:Gn tF:=⟨⟩
instance:Gn D9:=⟨⟩
instance:Gn CP:=⟨⟩
instance:Gn Il:=⟨⟩
instance:Gn N3:=⟨⟩
instance:Gn x6:=⟨⟩
instance:Gn N4:=⟨⟩
instance:Gn Rm:=⟨⟩
instance:Gn Io:=⟨⟩
instance {d:aQ}:En d.Kids aQ.ga:=⟨⟩
instance {d:aQ}:EnX d.Kids aQ.ga aQ.enc:=⟨aQ.jm⟩
instance {d:Def}:En d.eS aQ.ga:=⟨⟩
instance {d:Def}:EnX d.eS aQ.ga aQ.enc:=⟨aQ.jm⟩
theorem eu:Jr Int (dS .u64):=⟨⟩
instance:EnR (List (List UInt8)) (pL 1 oO):=⟨⟩
instance:EnR (List Int) (pL 1 (dS .i64)):=⟨⟩
abbrev Lt {l:Type} (f t:Option l):Prop:=∀{r:l},t=some r->f=some r
noncomputable abbrev rn {l:Type} (q:l->AV) (f:Nat) (a:List SV):Option l:=dec (EN q) (Rn f a [])
noncomputable abbrev hd {l:Type} (q:l->AV) (f k:Nat) (e:List (Nat×SV)) (o:List (Nat×Ob)):Option l:=dec (EN q) (uD P sV H gI f k [] e o)
noncomputable abbrev hx {w:Type} (q:w->Out) (f k:Nat) (l:List Nat) (e:List (Nat×SV)) (o:List (Nat×Ob)):Option w:=dec q (uD P sV H gI f k l e o)
abbrev wR (x:state):Ob:= .box 204 (List.map .pv (state.enc x))
abbrev Hp (x:world):Ob:= .box 225 (List.map .pv (world.enc x))
abbrev gy (x:aQ):Ob:= .box 27 (List.map .pv (aQ.enc x))
abbrev ff (x:FSt):Ob:= .box 30 (List.map .pv (FSt.enc x))
abbrev eC (x:aN):Ob:= .box 36 (List.map .pv (aN.enc x))
abbrev Cn (x:Node):Ob:= .box 64 (List.map .pv (Node.enc x))
abbrev EA (x:Def):Ob:= .box 66 (List.map .pv (Def.enc x))
abbrev CX (x:Template):Ob:= .box 70 (List.map .pv (Template.enc x))
abbrev UJ (x:fQ):Ob:= .box 86 (List.map .pv (fQ.enc x))
abbrev tc (x:aC):Ob:= .box 96 (List.map .pv (aC.enc x))
abbrev w8 (x:List (V3.T×V3.T)):Ob:= .mp 3 3 (fA V3 V3 x).1 (fA V3 V3 x).2
abbrev S8 (x:List (V3.T×V4.T)):Ob:= .mp 3 4 (fA V3 V4 x).1 (fA V3 V4 x).2
abbrev xP (x:List (V9.T×Uk.T)):Ob:= .mp 9 87 (fA V9 Uk x).1 (fA V9 Uk x).2
abbrev Z1 (x:Bool):SV:= .pv (.bool x)
abbrev pg_Arc (x:cD):SV:= .pv (.agg (cD.enc x))
abbrev Pr (x:Case):SV:= .pv (.agg (Case.enc x))
abbrev Tq (x:fQ):SV:= .pv (.agg (fQ.enc x))
abbrev Pt (x:Def):SV:= .pv (.agg (Def.enc x))
abbrev jw (x:aQ):SV:= .pv (.agg (aQ.enc x))
abbrev mu (x:FSt):SV:= .pv (.agg (FSt.enc x))
abbrev cr (x:aN):SV:= .pv (.agg (aN.enc x))
abbrev pg_Node (x:Node):SV:= .pv (.agg (Node.enc x))
abbrev Tr (x:Template):SV:= .pv (.agg (Template.enc x))
abbrev HT (x:aC):SV:= .pv (.agg (aC.enc x))
abbrev Ts (x:fO):SV:= .pv (.agg (fO.enc x))
abbrev Tt (x:world):SV:= .pv (.agg (world.enc x))
abbrev aG (x:Int):SV:= .pv (.int .i64 x)
abbrev Yd (x:Int):SV:= .pv (.int .u8 x)
abbrev fe (x:List (Int)):SV:= .pv (.dD 1 (List.map (dS .i64) x))
abbrev vq (x:List (List (Int))):SV:= .pv (.dD 1 (List.map (kR 1 (dS .u64)) x))
abbrev Pu (x:List (List (fV))):SV:= .pv (.dD 1 (List.map (kR 2 fV.enc) x))
abbrev gV (x:List (Int)):SV:= .pv (.dD 1 (List.map (dS .u64) x))
abbrev dg (x:List (List UInt8)):SV:= .pv (.dD 1 (List.map oO x))
abbrev KZ (x:List (fV)):SV:= .pv (.dD 2 (List.map fV.enc x))
abbrev kS (x:List (cD)):SV:= .pv (.dD 2 (List.map cD.enc x))
abbrev ic (x:List (fQ)):SV:= .pv (.dD 2 (List.map fQ.enc x))
abbrev Fi (x:List (dV)):SV:= .pv (.dD 2 (List.map dV.enc x))
abbrev er (x:List (cU)):SV:= .pv (.dD 2 (List.map cU.enc x))
abbrev dR (x:List (Node)):SV:= .pv (.dD 2 (List.map Node.enc x))
abbrev dL (x:List (Template)):SV:= .pv (.dD 3 (List.map Template.enc x))
abbrev bG (x:List (aC)):SV:= .pv (.dD 3 (List.map aC.enc x))
abbrev eV (x:List (fO)):SV:= .pv (.dD 4 (List.map fO.enc x))
abbrev oJ (x:List (Def)):SV:= .pv (.dD 6 (List.map Def.enc x))
abbrev uw (x:List UInt8):SV:= .pv (.str x)
abbrev gQ (n:Nat):Nat×SV:=(n, .ptr n 0)
abbrev vC (n:Nat):Nat×SV:=(n, .row n)
abbrev Lm (x:List (fV)):Ob:= .row 136 2 (List.map fV.enc x)
abbrev qK (x:List (cU)):Ob:= .row 147 2 (List.map cU.enc x)
abbrev qm (x:List (dV)):Ob:= .row 149 2 (List.map dV.enc x)
abbrev kC (x:List (dF)):Ob:= .row 183 2 (List.map dF.enc x)
abbrev yF (x:List (Int)):Ob:= .row 230 1 (List.map (dS .u64) x)
abbrev pJ (x:List (tag)):Ob:= .row 265 2 (List.map tag.enc x)
abbrev GJ (x:List (FSt)):Ob:= .row 30 1 (List.map FSt.enc x)
abbrev dY (x:List (Int)):Ob:= .row 3 1 (List.map (dS .i64) x)
abbrev iT (x:List (cD)):Ob:= .row 61 2 (List.map cD.enc x)
abbrev nY (x:List (List (cD))):Ob:= .row 62 1 (List.map (kR 2 cD.enc) x)
abbrev dO (x:List (Node)):Ob:= .row 64 2 (List.map Node.enc x)
abbrev gq (x:List (Template)):Ob:= .row 70 3 (List.map Template.enc x)
abbrev D1 (x:List (List (Int))):Ob:= .row 84 1 (List.map (kR 1 (dS .u64)) x)
abbrev AK (x:List (List (fV))):Ob:= .row 89 1 (List.map (kR 2 fV.enc) x)
abbrev z8 (x:List (fO)):Ob:= .row 91 4 (List.map fO.enc x)
abbrev gz (x:List (List UInt8)):Ob:= .row 9 1 (List.map oO x)
abbrev tl0:=λl q w z B=>([(10000,(.box 109 [(eV l),(er q),(dL w),(.row 10001),(dR z)])),(10001,(xP B))]:List (Nat×Ob))
abbrev YK:=λl q w z B=>([(10000,(.box 122 [(eV l),(er q),(.row 20001),(.row 20002),(.row 20003)])),(20001,(dY w)),(20002,(dY z)),(20003,(nY B))]:List (Nat×Ob))
abbrev YL:=λl q w z B D=>([(10000,(.box 72 [(.ptr 10002 0)])),(10001,(.box 87 [(fe l)])),(10002,(.box 109 [(eV q),(er w),(dL z),(.row 10003),(dR B)])),(10003,(xP D))]:List (Nat×Ob))
abbrev tl3:=λl q w z B=>([(10000,(.box 72 [(.ptr 10001 0)])),(10001,(.box 109 [(eV l),(er q),(dL w),(.row 10002),(dR z)])),(10002,(xP B))]:List (Nat×Ob))
abbrev tl4:=λl q w z B D F=>([(10000,(.box 119 [(.ptr 10004 0)])),(10001,(.box 87 [(.row 20005)])),(10002,(.box 30 [(.row 20006)])),(10003,(.box 186 [(.cl 112 [.p 10000, .p 10001, .p 10002, .p 10003])])),(10004,(.box 122 [(eV l),(er q),(.row 20007),(.row 20008),(.row 20009)])),(20005,(dY w)),(20006,(dO z)),(20007,(dY B)),(20008,(dY D)),(20009,(nY F))]:List (Nat×Ob))
abbrev tl5:=λl q w z=>([(10000,(.box 127 [(eV l),(er q),(.row 20001),(.row 20002)])),(20001,(dY w)),(20002,(dY z))]:List (Nat×Ob))
abbrev tl6:=λl q w z B D=>([(10000,(.box 119 [(.ptr 10002 0)])),(10001,(.box 184 [(.row 20003)])),(10002,(.box 122 [(eV l),(er q),(.row 20004),(.row 20005),(.row 20006)])),(20003,(kC w)),(20004,(dY z)),(20005,(dY B)),(20006,(nY D))]:List (Nat×Ob))
abbrev tl7:=λl q w=>([(3,(ff l)),(4,(ff q)),(5,(.box 30 [(.row 5080)])),(5080,(dO w))]:List (Nat×Ob))
abbrev tl8:=λl q w=>([(8,(ff l)),(9,(.box 30 [(.row 5144)])),(5144,(.rn 64 2 1 61 2 (List.map (kF Node.enc 1) q) (qg cD.enc w)))]:List (Nat×Ob))
abbrev tl9:=λl q=>([(10000,(gq l)),(20001,(pJ q))]:List (Nat×Ob))
abbrev tl10:=λl q w z B D F G I=>([(2,(eC l)),(3,(ff q)),(4,(ff w)),(14,(.box 127 [(eV z),(er B),(.row 5210),(.row 5211)])),(5208,(z8 D)),(5209,(qK F)),(5210,(dY G)),(5211,(dY I))]:List (Nat×Ob))
abbrev tl11:=λl q w z B D F G I=>([(6,(CX l)),(8,(ff q)),(10,(.box 70 [(uw w),(dR z),(.row 5498)])),(5161,(dO B)),(5162,(GJ D)),(5497,(dO F)),(5498,(GJ G)),(10000,(gq I))]:List (Nat×Ob))
abbrev tl12:=λl q w z=>([(2,(eC l)),(3,(ff q)),(4,(ff w)),(6,(dY z))]:List (Nat×Ob))
def jb {T:Type} {E:T->Out} [fC E] {raw:Option Out} {t:Option T} [i:Im E t raw] {f:Nat} {args:List SV} {cL:List (Nat×Ob)} (l:WY P sV H gI f args cL=raw:=by kernel_rfl) (q:gI f args cL=none:=by rfl):Lt (dec E (run P H gI f args cL)) t:=
 λw=>oH w i.p l λh=>pI (C:=sV) q h
def jh {T:Type} {E:T->Out} [fC E] {raw:Option Out} {t:Option T} [i:Im E t raw] {f key:Nat} {names:List Nat} {l:List (Nat×SV)} {q:List (Nat×Ob)} (w:Ww P sV H gI f key names l q=raw:=by kernel_rfl):Lt (dec E (uD P sV H gI f key names l q)) t:=
 λz=>oH z i.p w λh=>jL h
