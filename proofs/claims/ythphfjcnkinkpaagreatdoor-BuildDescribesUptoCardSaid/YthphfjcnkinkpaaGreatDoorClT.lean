/- The types and codecs of the program, by program (decomp8.py). -/
import Derived.Test.YthphfjcnkinkpaaGreatDoorProg
import Derived.Test.YthphfjcnkinkpaaGreatDoorAmI
import Derived.KernelRfl
set_option linter.all false
set_option maxRecDepth 100000
namespace Go.Proofs.YthphfjcnkinkpaaGreatDoor.cl
open Go Go.AM
noncomputable abbrev P:Program:=Tryz.prog
theorem Wb {l q:Type} {f:l->q} (h:∀a b,f a=f b->a=b:=by
 intro a b h
 (iterate 6 (try injections))<;>first
 |assumption
 |exact map_inj fq.inj _ _ ‹_›
 |(cases a;cases b;congr<;>first|assumption|exact map_inj fq.inj _ _ ‹_› |exact vP ‹_› ‹_›)):fq f:=⟨h⟩
theorem mkG {l q:Type} {f:l->q} (h:∀a b,f a=f b->a=b:=by
 intro a b h
 (iterate 6 (try injections))
 (repeat' apply p8)<;>first
 |assumption
 |exact map_inj fq.inj _ _ ‹_›
 |exact vP ‹_› ‹_›):fq f:=⟨h⟩
theorem mkK {K:xH} [DecidableEq K.T] (h:∀a b,xb (K.enc a) (K.enc b)=some (decide (a=b)):=by
 intro a b;simp only[xb,ia]
 first|rfl|(congr 1;first|rfl|(rw[iZ];simp))):HW K:=⟨λa b=>⟨inferInstance,h a b⟩⟩
def yw (l:List UInt8):List (List UInt8)->List UInt8
 |[]=>[]
 |[x]=>x
 |x::xs=>x++l++yw l xs
abbrev EntW:=List UInt8×Nat
def EntW.enc (p:EntW):List AV:=[.str p.1, .dG 1 (bif Nat.beq p.2 0 then[] else[[.int .u64 (p.2:Int)]])]
def strs:List (List AV)->Option (List (List UInt8))
 |[]=>some []
 |[.str s]::l=>(strs l).map (s:: ·)
 |_=>none
def Bh:List (List AV)->Option (List (Int×Int))
 |[]=>some []
 |[.int .i64 f, .int .i64 t]::l=>(Bh l).map ((f,t):: ·)
 |_=>none
def Sg (p:Int×Int):List AV:=[.int .i64 p.1, .int .i64 p.2]
def V7 (p q:Int×Int):Bool:=decide (p.1<q.1)
def Bg:List (Int×Int)->Bool
 |[]=>true
 |x::l=>l.all (λy=>V7 x y||V7 y x)&&Bg l
def L8 (a b:List UInt8):Int:=bif Op.bytesLess a b then-1 else bif a==b then 0 else 1
def aeG:List AV:=[.str [], .int .i64 0, .str [], .dG 1 [], .dG 4 [], .dG 4 []]
abbrev V3:xH:=⟨Int,AV.int .i64⟩
instance:fq V3.enc:=Wb
instance:HW V3:=mkK
abbrev V4:xH:=⟨Bool,AV.bool⟩
instance:fq V4.enc:=Wb
instance:HW V4:=mkK
abbrev V9:xH:=⟨List UInt8,AV.str⟩
instance:fq V9.enc:=Wb
instance:HW V9:=mkK
structure dP where
 bw:List UInt8
 Value:List UInt8
 deriving Inhabited
def dP.enc (x:dP):List AV:=[.str x.bw, .str x.Value]
instance:fq dP.enc:=Wb
structure aC where
 Name:List UInt8
 ee:List (List UInt8)
 bC:List dP
 deriving Inhabited
def aC.enc (x:aC):List AV:=[.str x.Name, .dG 1 (List.map pE x.ee), .dG 2 (List.map dP.enc x.bC)]
instance:fq aC.enc:=Wb
inductive bI where
 |mk (Op:Int) (Name:List UInt8) (Path:List (List UInt8)) (Kids:List bI)
def bI.Op:bI->Int
 | .mk x _ _ _=>x
def bI.Name:bI->List UInt8
 | .mk _ x _ _=>x
def bI.Path:bI->List (List UInt8)
 | .mk _ _ x _=>x
def bI.Kids:bI->List bI
 | .mk _ _ _ x=>x
mutual
def bI.gQ:bI->List AV
 | .mk a b c d=>[.int .i64 a, .str b, .dG 1 (List.map pE c), .dG 4 (bI.Ev d)]
def bI.Ev:List bI->List (List AV)
 |[]=>[]
 |x::l=>bI.gQ x::bI.Ev l
end
def bI.enc (x:bI):List AV:=[.int .i64 x.Op, .str x.Name, .dG 1 (List.map pE x.Path), .dG 4 (List.map bI.gQ x.Kids)]
instance:Inhabited bI:=⟨.mk 0 [] [] []⟩
mutual
theorem bI.injX:∀(a b:bI),bI.gQ a=bI.gQ b->a=b
 | .mk a0 a1 a2 a3, .mk b0 b1 b2 b3,h=>by simp only[bI.gQ,cV,AV.int.injEq,AV.str.injEq,AV.bool.injEq,AV.dG.injEq,eH,eP] at h;obtain⟨h0,h1,h2,h3⟩:=h;replace h3:=bI.injXs _ _ h3;replace h2:=map_inj fq.inj _ _ h2;subst h0 h1 h2 h3;rfl
theorem bI.injXs:∀(a b:List bI),bI.Ev a=bI.Ev b->a=b
 |[],[],_=>rfl
 |[],_::_,h=>by simp[bI.Ev] at h
 |_::_,[],h=>by simp[bI.Ev] at h
 |x::l,y::m,h=>by simp only[bI.Ev,cV] at h;rw[bI.injX x y h.1,bI.injXs l m h.2]
end
def bI.Sh (l:List bI):bI.Ev l=l.map bI.gQ:=by induction l with
 |nil=>rfl
 |cons x l q=>simp[bI.Ev,q]
def bI.jX:bI.gQ=bI.enc:=by funext x;cases x;simp only[bI.gQ,bI.enc,bI.Sh];rfl
instance:fq bI.gQ:=⟨bI.injX⟩
instance:fq bI.enc:=⟨λa b h=>bI.injX a b (by rw[bI.jX];exact h)⟩
structure Def where
 Name:List UInt8
 gZ:bI
 fc:List bI
 deriving Inhabited
def Def.enc (x:Def):List AV:=[.str x.Name, .int .i64 x.gZ.Op, .str x.gZ.Name, .dG 1 (List.map pE x.gZ.Path), .dG 4 (List.map bI.gQ x.gZ.Kids), .dG 4 (List.map bI.gQ x.fc)]
def Def.inj:∀(a b:Def),Def.enc a=Def.enc b->a=b:=by intro a b h;obtain⟨O,L,F⟩:=a;obtain⟨G,q,w,l⟩:=L;obtain⟨Q,N,I⟩:=b;obtain⟨K,B,D,z⟩:=N;simp only[Def.enc,cV,AV.int.injEq,AV.str.injEq,AV.bool.injEq,AV.dG.injEq,AV.mp.injEq,eH,eP] at h;obtain⟨V,h1,h2,R,S,U⟩:=h;replace R:=map_inj fq.inj _ _ R;replace S:=map_inj fq.inj _ _ S;replace U:=map_inj fq.inj _ _ U;change O=Q at V;change G=K at h1;change q=B at h2;change w=D at R;change l=z at S;change F=I at U;subst V h1 h2 R S U;rfl
instance:fq Def.enc:=⟨Def.inj⟩
structure cz where
 bw:Int
 To:Int
 deriving Inhabited
def cz.enc (x:cz):List AV:=[.int .i64 x.bw, .int .i64 x.To]
instance:fq cz.enc:=Wb
structure Node where
 cR:Int
 bJ:List cz
 deriving Inhabited
def Node.enc (x:Node):List AV:=[.int .i64 x.cR, .dG 2 (List.map cz.enc x.bJ)]
instance:fq Node.enc:=Wb
structure FSt where
 au:List Node
 deriving Inhabited
def FSt.enc (x:FSt):List AV:=[.dG 2 (List.map Node.enc x.au)]
instance:fq FSt.enc:=Wb
structure Case where
 Decls:List aC
 Defs:List Def
 X:bI
 Y:bI
 F:FSt
 deriving Inhabited
def Case.enc (x:Case):List AV:=[.dG 3 (List.map aC.enc x.Decls), .dG 6 (List.map Def.enc x.Defs), .int .i64 x.X.Op, .str x.X.Name, .dG 1 (List.map pE x.X.Path), .dG 4 (List.map bI.gQ x.X.Kids), .int .i64 x.Y.Op, .str x.Y.Name, .dG 1 (List.map pE x.Y.Path), .dG 4 (List.map bI.gQ x.Y.Kids), .dG 2 (List.map Node.enc x.F.au)]
def Case.inj:∀(a b:Case),Case.enc a=Case.enc b->a=b:=by intro a b h;obtain⟨w,V,aX,aY,aF⟩:=a;obtain⟨aXOp,B,D,z⟩:=aX;obtain⟨aYOp,G,I,F⟩:=aY;obtain⟨l⟩:=aF;obtain⟨K,bDefs,bX,bY,bF⟩:=b;obtain⟨bXOp,N,O,L⟩:=bX;obtain⟨bYOp,R,S,Q⟩:=bY;obtain⟨q⟩:=bF;simp only[Case.enc,cV,AV.int.injEq,AV.str.injEq,AV.bool.injEq,AV.dG.injEq,AV.mp.injEq,eH,eP] at h;obtain⟨h0,h1,h2,h3,h4,h5,h6,h7,h8,h9,U⟩:=h;replace h0:=map_inj fq.inj _ _ h0;replace h1:=map_inj fq.inj _ _ h1;replace h4:=map_inj fq.inj _ _ h4;replace h5:=map_inj fq.inj _ _ h5;replace h8:=map_inj fq.inj _ _ h8;replace h9:=map_inj fq.inj _ _ h9;replace U:=map_inj fq.inj _ _ U;change w=K at h0;change V=bDefs at h1;change aXOp=bXOp at h2;change B=N at h3;change D=O at h4;change z=L at h5;change aYOp=bYOp at h6;change G=R at h7;change I=S at h8;change F=Q at h9;change l=q at U;subst h0 h1 h2 h3 h4 h5 h6 h7 h8 h9 U;rfl
instance:fq Case.enc:=⟨Case.inj⟩
structure ga where
 bw:Int
 Value:Int
 deriving Inhabited
def ga.enc (x:ga):List AV:=[.int .i64 x.bw, .int .i64 x.Value]
instance:fq ga.enc:=Wb
structure fM where
 Name:List UInt8
 Code:List Int
 ee:List Int
 bC:List ga
 deriving Inhabited
def fM.enc (x:fM):List AV:=[.str x.Name, .dG 1 (List.map (dW .u64) x.Code), .dG 1 (List.map (dW .i64) x.ee), .dG 2 (List.map ga.enc x.bC)]
instance:fq fM.enc:=Wb
structure cW where
 Name:List UInt8
 Intro:Int
 deriving Inhabited
def cW.enc (x:cW):List AV:=[.str x.Name, .int .i64 x.Intro]
instance:fq cW.enc:=Wb
structure aK where
 Types:List fM
 bC:List cW
 deriving Inhabited
def aK.enc (x:aK):List AV:=[.dG 4 (List.map fM.enc x.Types), .dG 2 (List.map cW.enc x.bC)]
def aK.inj:∀(a b:aK),aK.enc a=aK.enc b->a=b:=by intro a b h;obtain⟨q,l⟩:=a;obtain⟨z,w⟩:=b;simp only[aK.enc,cV,AV.int.injEq,AV.str.injEq,AV.bool.injEq,AV.dG.injEq,AV.mp.injEq,eH,eP] at h;obtain⟨B,D⟩:=h;replace B:=map_inj fq.inj _ _ B;replace D:=map_inj fq.inj _ _ D;change q=z at B;change l=w at D;subst B D;rfl
instance:fq aK.enc:=⟨aK.inj⟩
structure Template where
 Name:List UInt8
 gZ:FSt
 fc:List FSt
 deriving Inhabited
def Template.enc (x:Template):List AV:=[.str x.Name, .dG 2 (List.map Node.enc x.gZ.au), .dG 1 (List.map FSt.enc x.fc)]
def Template.inj:∀(a b:Template),Template.enc a=Template.enc b->a=b:=by intro a b h;obtain⟨F,B,w⟩:=a;obtain⟨l⟩:=B;obtain⟨G,D,z⟩:=b;obtain⟨q⟩:=D;simp only[Template.enc,cV,AV.int.injEq,AV.str.injEq,AV.bool.injEq,AV.dG.injEq,AV.mp.injEq,eH,eP] at h;obtain⟨L,I,K⟩:=h;replace I:=map_inj fq.inj _ _ I;replace K:=map_inj fq.inj _ _ K;change F=G at L;change l=q at I;change w=z at K;subst L I K;rfl
instance:fq Template.enc:=⟨Template.inj⟩
structure world where
 h:aK
 list:Int
 cons:Int
 null:Int
 dlist:Int
 first:Int
 rest:Int
 head:Int
 last:Int
 deriving Inhabited
def world.enc (x:world):List AV:=[.dG 4 (List.map fM.enc x.h.Types), .dG 2 (List.map cW.enc x.h.bC), .int .i64 x.list, .int .i64 x.cons, .int .i64 x.null, .int .i64 x.dlist, .int .i64 x.first, .int .i64 x.rest, .int .i64 x.head, .int .i64 x.last]
def world.inj:∀(a b:world),world.enc a=world.enc b->a=b:=by intro a b h;obtain⟨ah,N,I,O,B,D,Q,K,L⟩:=a;obtain⟨q,l⟩:=ah;obtain⟨bh,V,R,bnull,F,G,brest,S,U⟩:=b;obtain⟨z,w⟩:=bh;simp only[world.enc,cV,AV.int.injEq,AV.str.injEq,AV.bool.injEq,AV.dG.injEq,AV.mp.injEq,eH,eP] at h;obtain⟨h0,h1,h2,h3,h4,h5,h6,h7,h8,h9⟩:=h;replace h0:=map_inj fq.inj _ _ h0;replace h1:=map_inj fq.inj _ _ h1;change q=z at h0;change l=w at h1;change N=V at h2;change I=R at h3;change O=bnull at h4;change B=F at h5;change D=G at h6;change Q=brest at h7;change K=S at h8;change L=U at h9;subst h0 h1 h2 h3 h4 h5 h6 h7 h8 h9;rfl
instance:fq world.enc:=⟨world.inj⟩
structure met where
 Name:List UInt8
 Node:Int
 deriving Inhabited
def met.enc (x:met):List AV:=[.str x.Name, .int .i64 x.Node]
instance:fq met.enc:=Wb
structure fO where
 Name:List UInt8
 Code:List Int
 deriving Inhabited
def fO.enc (x:fO):List AV:=[.str x.Name, .dG 1 (List.map (dW .u64) x.Code)]
instance:fq fO.enc:=Wb
structure tag where
 Name:List UInt8
 Path:List Int
 deriving Inhabited
def tag.enc (x:tag):List AV:=[.str x.Name, .dG 1 (List.map (dW .i64) x.Path)]
instance:fq tag.enc:=Wb
structure state where
 F:FSt
 OK:Bool
 Tags:List tag
 deriving Inhabited
def state.enc (x:state):List AV:=[.dG 2 (List.map Node.enc x.F.au), .bool x.OK, .dG 2 (List.map tag.enc x.Tags)]
def state.inj:∀(a b:state),state.enc a=state.enc b->a=b:=by intro a b h;obtain⟨K,F,w⟩:=a;obtain⟨l⟩:=K;obtain⟨L,G,z⟩:=b;obtain⟨q⟩:=L;simp only[state.enc,cV,AV.int.injEq,AV.str.injEq,AV.bool.injEq,AV.dG.injEq,AV.mp.injEq,eH,eP] at h;obtain⟨B,I,D⟩:=h;replace B:=map_inj fq.inj _ _ B;replace D:=map_inj fq.inj _ _ D;change l=q at B;change F=G at I;change w=z at D;subst B I D;rfl
instance:fq state.enc:=⟨state.inj⟩
structure dD where
 a0:Int
 a1:Int
 deriving Inhabited
def dD.enc (x:dD):List AV:=[.int .i64 x.a0, .int .i64 x.a1]
instance:fq dD.enc:=Wb
abbrev C124:FQ:=⟨aC,aC.enc⟩
abbrev C73:FQ:=⟨Def,Def.enc⟩
abbrev C9:FQ:=⟨List UInt8,pE⟩
abbrev C27:FQ:=⟨bI,bI.enc⟩
abbrev C71:FQ:=⟨Node,Node.enc⟩
abbrev C119:FQ:=⟨fM,fM.enc⟩
abbrev C135:FQ:=⟨cW,cW.enc⟩
abbrev C76:FQ:=⟨Template,Template.enc⟩
abbrev C30:FQ:=⟨FSt,FSt.enc⟩
abbrev C3:FQ:=⟨Int,(dW .i64)⟩
abbrev C68:FQ:=⟨cz,cz.enc⟩
abbrev C158:FQ:=⟨met,met.enc⟩
abbrev C117:FQ:=⟨List (ga),(mF 2 ga.enc)⟩
abbrev C115:FQ:=⟨fO,fO.enc⟩
abbrev C225:FQ:=⟨Int,(dW .u64)⟩
abbrev C155:FQ:=⟨ga,ga.enc⟩
abbrev C179:FQ:=⟨dP,dP.enc⟩
abbrev C113:FQ:=⟨List (Int),(mF 1 (dW .u64))⟩
abbrev C305:FQ:=⟨tag,tag.enc⟩
abbrev C51:FQ:=⟨List (Int),(mF 1 (dW .i64))⟩
abbrev C69:FQ:=⟨List (cz),(mF 2 cz.enc)⟩
abbrev C4:FQ:=⟨Bool,Xk⟩
abbrev C309:FQ:=⟨dD,dD.enc⟩
abbrev C5:FQ:=⟨Int,(dW .u8)⟩
abbrev Uy:xH:=⟨List Int,pL 1 (dW .i64)⟩
abbrev Q0:=pA aK.enc
abbrev Q1:=pP (pL 3 Template.enc) (AV.bool)
abbrev Q2:=AV.bool
abbrev Q3:=pP (pA FSt.enc) (AV.int .i64)
abbrev Q4:=AV.int .i64
abbrev Q5:=pP (pA aK.enc) (AV.int .i64)
abbrev Q6:=pL 3 aC.enc
abbrev Q7:=pP (pL 3 Template.enc) (AV.int .i64)
abbrev Q8:=pP (pA world.enc) (AV.int .i64)
abbrev Q9:=pA FSt.enc
abbrev Q10:=pP (pA FSt.enc) (AV.bool)
abbrev Q11:=pP (pL 1 (dW .i64)) (AV.bool)
abbrev Q12:=pP (pL 1 (mF 2 ga.enc)) (AV.int .i64)
abbrev Q13:=pP (pL 2 fO.enc) (AV.int .i64)
abbrev Q14:=pA aC.enc
abbrev Q15:=pL 1 pE
abbrev Q16:=pL 1 (dW .i64)
abbrev Q17:=pP (pL 2 cW.enc) (AV.int .i64)
abbrev Q18:=pP (pA Template.enc) (AV.int .i64)
abbrev Q19:=pL 1 (dW .u64)
abbrev Q20:=pP (AV.int .i64) (AV.bool)
abbrev Q21:=pL 1 (mF 1 (dW .u64))
abbrev Q22:=pW 3 1 (dW .i64)
abbrev Q23:=pU
abbrev Q24:=pW 71 2 Node.enc
abbrev Q25:=pP (AV.str) (AV.bool)
abbrev Q26:=pP (pL 1 (dW .u64)) (AV.bool)
abbrev Q27:=AV.str
abbrev Q28:=AV.int .u64
abbrev Q29:=pF 200 cz.enc
abbrev Q30:=pW 68 2 cz.enc
abbrev Q31:=pP (pL 1 (dW .u64)) (AV.int .i64)
abbrev Q32:=pL 2 Node.enc
abbrev R28.T:Type:=List Int
def elems:List (Nat×FQ):=[(124,C124),(73,C73),(9,C9),(27,C27),(71,C71),(119,C119),(135,C135),(76,C76),(30,C30),(3,C3),(68,C68),(158,C158),(117,C117),(115,C115),(225,C225),(155,C155),(179,C179),(113,C113),(305,C305),(51,C51),(69,C69),(4,C4),(309,C309),(5,C5)]
def vals:List (Nat×xH):=[(3,V3),(4,V4),(9,V9),(51,Uy)]
def ress:List (Nat×xH):=[(3,⟨_,Q2⟩),(4,⟨_,Q2⟩),(5,⟨_,Q0⟩),(6,⟨_,Q1⟩),(7,⟨_,Q2⟩),(8,⟨_,Q2⟩),(9,⟨_,Q2⟩),(10,⟨_,Q3⟩),(11,⟨_,Q3⟩),(12,⟨_,Q3⟩),(13,⟨_,Q9⟩),(14,⟨_,Q4⟩),(15,⟨_,Q10⟩),(16,⟨_,Q2⟩),(17,⟨_,Q4⟩),(18,⟨_,Q4⟩),(19,⟨_,Q2⟩),(20,⟨_,Q2⟩),(21,⟨_,Q4⟩),(22,⟨_,Q2⟩),(23,⟨_,Q5⟩),(24,⟨_,Q6⟩),(25,⟨_,Q2⟩),(26,⟨_,Q2⟩),(27,⟨_,Q7⟩),(28,⟨_,Q4⟩),(29,⟨_,Q4⟩),(30,⟨_,Q2⟩),(35,⟨_,Q3⟩),(36,⟨_,Q3⟩),(37,⟨_,Q4⟩),(38,⟨_,Q8⟩),(39,⟨_,Q2⟩),(40,⟨_,Q3⟩),(42,⟨_,Q3⟩),(43,⟨_,Q2⟩),(44,⟨_,Q24⟩),(45,⟨_,Q4⟩),(46,⟨_,Q3⟩),(47,⟨_,Q4⟩),(48,⟨_,Q20⟩),(49,⟨_,Q2⟩),(51,⟨_,Q2⟩),(52,⟨_,Q20⟩),(53,⟨_,Q11⟩),(54,⟨_,Q12⟩),(55,⟨_,Q13⟩),(56,⟨_,Q16⟩),(57,⟨_,Q17⟩),(58,⟨_,Q14⟩),(59,⟨_,Q2⟩),(60,⟨_,Q2⟩),(61,⟨_,Q4⟩),(62,⟨_,Q2⟩),(63,⟨_,Q4⟩),(64,⟨_,Q18⟩),(65,⟨_,Q4⟩),(66,⟨_,Q4⟩),(67,⟨_,Q2⟩),(70,⟨_,Q20⟩),(74,⟨_,Q2⟩),(75,⟨_,Q2⟩),(76,⟨_,Q4⟩),(77,⟨_,Q4⟩),(78,⟨_,Q4⟩),(79,⟨_,Q9⟩),(80,⟨_,Q2⟩),(81,⟨_,Q16⟩),(82,⟨_,Q4⟩),(83,⟨_,Q9⟩),(84,⟨_,Q2⟩),(85,⟨_,Q2⟩),(86,⟨_,Q2⟩),(87,⟨_,Q2⟩),(88,⟨_,Q9⟩),(90,⟨_,Q4⟩),(93,⟨_,Q4⟩),(94,⟨_,Q4⟩),(95,⟨_,Q15⟩),(96,⟨_,Q26⟩),(97,⟨_,Q4⟩),(98,⟨_,Q4⟩),(99,⟨_,Q15⟩),(100,⟨_,Q19⟩),(101,⟨_,Q21⟩),(102,⟨_,Q27⟩),(103,⟨_,Q2⟩),(104,⟨_,Q2⟩),(105,⟨_,Q25⟩),(106,⟨_,Q4⟩),(107,⟨_,Q2⟩),(108,⟨_,Q4⟩),(109,⟨_,Q4⟩),(110,⟨_,Q4⟩),(111,⟨_,Q15⟩),(112,⟨_,Q3⟩),(114,⟨_,Q2⟩),(115,⟨_,Q19⟩),(119,⟨_,Q4⟩),(128,⟨_,Q20⟩),(129,⟨_,Q4⟩),(134,⟨_,Q2⟩),(135,⟨_,Q2⟩),(136,⟨_,Q2⟩),(137,⟨_,Q2⟩),(138,⟨_,Q2⟩),(139,⟨_,Q2⟩),(140,⟨_,Q16⟩),(141,⟨_,Q11⟩),(142,⟨_,Q4⟩),(143,⟨_,Q2⟩),(144,⟨_,Q23⟩),(145,⟨_,Q30⟩),(146,⟨_,Q29⟩),(148,⟨_,Q20⟩),(149,⟨_,Q4⟩),(150,⟨_,Q23⟩),(151,⟨_,Q30⟩),(152,⟨_,Q4⟩),(153,⟨_,Q28⟩),(154,⟨_,Q11⟩),(155,⟨_,Q20⟩),(156,⟨_,Q4⟩),(157,⟨_,Q15⟩),(158,⟨_,Q25⟩),(159,⟨_,Q19⟩),(160,⟨_,Q19⟩),(161,⟨_,Q2⟩),(162,⟨_,Q4⟩),(163,⟨_,Q4⟩),(164,⟨_,Q4⟩),(165,⟨_,Q15⟩),(166,⟨_,Q15⟩),(167,⟨_,Q2⟩),(168,⟨_,Q31⟩),(169,⟨_,Q2⟩),(170,⟨_,Q2⟩),(171,⟨_,Q2⟩),(172,⟨_,Q15⟩),(173,⟨_,Q4⟩),(174,⟨_,Q2⟩),(175,⟨_,Q2⟩),(176,⟨_,Q2⟩),(178,⟨_,Q10⟩),(179,⟨_,Q2⟩),(180,⟨_,Q28⟩),(189,⟨_,Q9⟩),(190,⟨_,Q9⟩),(194,⟨_,Q10⟩),(195,⟨_,Q4⟩),(196,⟨_,Q10⟩),(197,⟨_,Q22⟩),(201,⟨_,Q4⟩),(202,⟨_,Q19⟩),(203,⟨_,Q2⟩),(204,⟨_,Q2⟩),(205,⟨_,Q4⟩),(206,⟨_,Q4⟩),(207,⟨_,Q2⟩),(208,⟨_,Q4⟩),(209,⟨_,Q2⟩),(210,⟨_,Q15⟩),(211,⟨_,Q15⟩),(212,⟨_,Q16⟩),(213,⟨_,Q2⟩),(214,⟨_,Q2⟩),(215,⟨_,Q2⟩),(216,⟨_,Q2⟩),(221,⟨_,Q16⟩),(223,⟨_,Q2⟩),(224,⟨_,Q2⟩),(233,⟨_,Q10⟩),(238,⟨_,Q23⟩),(239,⟨_,Q2⟩),(240,⟨_,Q9⟩),(244,⟨_,Q2⟩),(245,⟨_,Q19⟩),(246,⟨_,Q4⟩),(247,⟨_,Q4⟩),(248,⟨_,Q4⟩),(249,⟨_,Q2⟩),(250,⟨_,Q2⟩),(251,⟨_,Q10⟩),(252,⟨_,Q10⟩),(253,⟨_,Q20⟩),(262,⟨_,Q2⟩),(263,⟨_,Q4⟩),(264,⟨_,Q4⟩),(275,⟨_,Q10⟩),(276,⟨_,Q9⟩),(277,⟨_,Q20⟩),(310,⟨_,Q32⟩),(311,⟨_,Q16⟩),(312,⟨_,Q16⟩),(313,⟨_,Q22⟩),(314,⟨_,Q11⟩),(315,⟨_,Q9⟩),(348,⟨_,Q20⟩)]
abbrev RB.T:Type:=(List fM)×(List cW)×(List Template)×(List Node)×(List ((List UInt8)×(List Int)))
def RB:RB.T->Out:=(λx:(List fM)×(List cW)×(List Template)×(List Node)×(List ((List UInt8)×(List Int)))=>((.gX [.gX [.self 0, .pG,(.self 25000)]],[(25000,(.box 141 [(.pv (.dG 4 (List.map fM.enc x.1))),(.pv (.dG 2 (List.map cW.enc x.2.1))),(.pv (.dG 3 (List.map Template.enc x.2.2.1))),(.row 25001),(.pv (.dG 2 (List.map Node.enc x.2.2.2.1)))])),(25001,(.mp 9 51 (fK V9 Uy x.2.2.2.2).1 (fK V9 Uy x.2.2.2.2).2))]):Out))
instance:fq RB:=⟨λa b h=>by
 obtain⟨F,G,I,K,L⟩:=a;obtain⟨N,O,Q,R,S⟩:=b;simp only[RB,cD,cV,AV.gX.injEq,AV.agg.injEq,AV.dG.injEq,AV.int.injEq,AV.bool.injEq,AV.str.injEq,Ob.row.injEq,Ob.rn.injEq,Ob.box.injEq,Ob.mp.injEq,SV.pv.injEq,eP,eH,rQ] at h;obtain⟨l,q,w,z,B,D⟩:=h
 rw[map_inj fq.inj _ _ l,map_inj fq.inj _ _ q,map_inj fq.inj _ _ w,map_inj fq.inj _ _ z,vP (K:=V9) (V:=Uy) B D]⟩
abbrev LZ.T:Type:=(List Node)
def LZ:LZ.T->Out:=(λx:(List Node)=>((.gX [.gX [.self 0, .pG,(.self 20000)]],[(20000,(.row 71 2 (List.map Node.enc x)))]):Out))
instance:fq LZ:=mkG
abbrev AQ.T:Type:=Bool×(List met)
def AQ:AQ.T->Out:=(λx:Bool×(List met)=>((.gX [.gX [.self 0, .pG,(.gX [(.bool x.1),(.self 20000)])]],[(20000,(.row 158 2 (List.map met.enc x.2)))]):Out))
instance:fq AQ:=mkG
abbrev RC.T:Type:=Bool×(List met)
def RC:RC.T->Out:=(λx:Bool×(List met)=>((.gX [.gX [.self 0, .pG,(.gX [(.bool x.1),(.self 20000)])]],[(20000,(.row 158 2 (List.map met.enc x.2)))]):Out))
instance:fq RC:=mkG
abbrev UC.T:Type:=Bool×(List met)
def UC:UC.T->Out:=(λx:Bool×(List met)=>((.gX [.gX [.self 0, .pG,(.gX [(.bool x.1),(.self 20000)])]],[(20000,(.row 158 2 (List.map met.enc x.2)))]):Out))
instance:fq UC:=mkG
abbrev HU.T:Type:=Bool×Int×(List met)
def HU:HU.T->Out:=(λx:Bool×Int×(List met)=>((.gX [.gX [.self 0, .pG,(.gX [(.bool x.1),(.int .i64 x.2.1),(.self 20000)])]],[(20000,(.row 158 2 (List.map met.enc x.2.2)))]):Out))
instance:fq HU:=mkG
abbrev DX.T:Type:=Node
def DX:DX.T->Out:=(λx:Node=>((.gX [.gX [.self 0, .pG,(.agg [(.self 25000)])]],[(25000,(.rn 71 2 1 68 2 (List.map (ko Node.enc 1) [x]) (qh cz.enc [some x.bJ])))]):Out))
instance:fq DX:=⟨λa b h=>by
 simp only[DX,cD,cV,AV.gX.injEq,AV.agg.injEq,AV.dG.injEq,AV.int.injEq,AV.bool.injEq,AV.str.injEq,Ob.row.injEq,Ob.rn.injEq,Ob.box.injEq,Ob.mp.injEq,SV.pv.injEq,eP,eH,rQ] at h;obtain⟨q,l⟩:=h
 exact(List.cons.inj (WE (sub:=λx=>x.bJ) (x:=[_]) (y:=[_]) (λa b l w=>by cases a;cases b;simp_all[ko,Node.enc]) q l)).1⟩
abbrev tN.T:Type:=(List Node)×Bool×(List Template)×(List tag)
def tN:tN.T->Out:=(λx:(List Node)×Bool×(List Template)×(List tag)=>((.gX [.gX [.self 0, .pG,(.agg [(.dG 2 (List.map Node.enc x.1)),(.bool x.2.1),(.self 20001)])]],[(10000,(.row 76 3 (List.map Template.enc x.2.2.1))),(20001,(.row 305 2 (List.map tag.enc x.2.2.2)))]):Out))
instance:fq tN:=mkG
abbrev DY.T:Type:=(List (List UInt8))
def DY:DY.T->Out:=(λx:(List (List UInt8))=>((.gX [.gX [.self 0, .pG,(.self 20000)]],[(20000,(.row 9 1 (List.map pE x)))]):Out))
instance:fq DY:=mkG
abbrev CI.T:Type:=(List Node)×Bool×(List tag)
def CI:CI.T->Out:=(λx:(List Node)×Bool×(List tag)=>((.gX [.gX [.self 0, .pG,(.agg [(.dG 2 (List.map Node.enc x.1)),(.bool x.2.1),(.self 20000)])]],[(20000,(.row 305 2 (List.map tag.enc x.2.2)))]):Out))
instance:fq CI:=mkG
abbrev HS.T:Type:=(List Node)×Bool×(List tag)
def HS:HS.T->Out:=(λx:(List Node)×Bool×(List tag)=>((.gX [.gX [.self 0, .pG,(.agg [(.dG 2 (List.map Node.enc x.1)),(.bool x.2.1),(.self 20000)])]],[(20000,(.row 305 2 (List.map tag.enc x.2.2)))]):Out))
instance:fq HS:=mkG
abbrev NS.T:Type:=(List Node)×Bool×(List tag)
def NS:NS.T->Out:=(λx:(List Node)×Bool×(List tag)=>((.gX [.gX [.self 0, .pG,(.agg [(.dG 2 (List.map Node.enc x.1)),(.bool x.2.1),(.self 20000)])]],[(20000,(.row 305 2 (List.map tag.enc x.2.2)))]):Out))
instance:fq NS:=mkG
abbrev ye.T:Type:=(List Node)×Bool×(List Template)×(List tag)
def ye:ye.T->Out:=(λx:(List Node)×Bool×(List Template)×(List tag)=>((.gX [.gX [.self 0, .pG,(.agg [(.dG 2 (List.map Node.enc x.1)),(.bool x.2.1),(.self 20001)])]],[(10000,(.row 76 3 (List.map Template.enc x.2.2.1))),(20001,(.row 305 2 (List.map tag.enc x.2.2.2)))]):Out))
instance:fq ye:=mkG
abbrev NT.T:Type:=(List Node)×Bool×(List tag)
def NT:NT.T->Out:=(λx:(List Node)×Bool×(List tag)=>((.gX [.gX [.self 0, .pG,(.agg [(.dG 2 (List.map Node.enc x.1)),(.bool x.2.1),(.self 20000)])]],[(20000,(.row 305 2 (List.map tag.enc x.2.2)))]):Out))
instance:fq NT:=mkG
abbrev HT.T:Type:=Int×(List Node)
def HT:HT.T->Out:=(λx:Int×(List Node)=>((.gX [.gX [.self 0, .pG,(.gX [(.agg [(.self 25000)]),(.int .i64 x.1)])]],[(25000,(.rn 71 2 1 68 2 (List.map (ko Node.enc 1) x.2) (qh cz.enc (List.map (λx=>some x.bJ) x.2))))]):Out))
instance:fq HT:=⟨λa b h=>by
 obtain⟨z,B⟩:=a;obtain⟨D,F⟩:=b;simp only[HT,cD,cV,AV.gX.injEq,AV.agg.injEq,AV.dG.injEq,AV.int.injEq,AV.bool.injEq,AV.str.injEq,Ob.row.injEq,Ob.rn.injEq,Ob.box.injEq,Ob.mp.injEq,SV.pv.injEq,eP,eH,rQ] at h;obtain⟨w,l,q⟩:=h
 rw[w,WE (λa b l q=>by cases a;cases b;simp_all[ko,Node.enc]) l q]⟩
abbrev A3.T:Type:=(Template×Int)×(List Template)
def A3:A3.T->Out:=(λx:(Template×Int)×(List Template)=>((Q18 x.1,[(10000, .row 76 3 (List.map Template.enc x.2))]):Out))
instance:fq A3:=⟨λa b h=>by
 obtain⟨w,z⟩:=a;obtain⟨B,D⟩:=b;simp only[A3,cD,cV,Ob.row.injEq,Ob.mp.injEq,Ob.lp.injEq,Ob.box.injEq,eP,eH] at h;obtain⟨l,q⟩:=h
 rw[fq.inj _ _ l,map_inj fq.inj _ _ q]⟩
abbrev CL.T:Type:=(FSt×Int)×(List Template)
def CL:CL.T->Out:=(λx:(FSt×Int)×(List Template)=>((Q3 x.1,[(10000, .row 76 3 (List.map Template.enc x.2))]):Out))
instance:fq CL:=⟨λa b h=>by
 obtain⟨w,z⟩:=a;obtain⟨B,D⟩:=b;simp only[CL,cD,cV,Ob.row.injEq,Ob.mp.injEq,Ob.lp.injEq,Ob.box.injEq,eP,eH] at h;obtain⟨l,q⟩:=h
 rw[fq.inj _ _ l,map_inj fq.inj _ _ q]⟩
def outs:List (Nat×CodO):=[(3000000,⟨RB.T,RB⟩),(3004160,⟨LZ.T,LZ⟩),(3008256,⟨AQ.T,AQ⟩),(3012352,⟨RC.T,RC⟩),(3016448,⟨AQ.T,AQ⟩),(3020544,⟨UC.T,UC⟩),(3024640,⟨HU.T,HU⟩),(3028736,⟨AQ.T,AQ⟩),(3032832,⟨HU.T,HU⟩),(3036928,⟨A3.T,A3⟩),(3041024,⟨LZ.T,LZ⟩),(3045120,⟨HU.T,HU⟩),(3049216,⟨CL.T,CL⟩),(3053312,⟨AQ.T,AQ⟩),(3057408,⟨AQ.T,AQ⟩),(3061440,⟨DX.T,DX⟩),(3065664,⟨tN.T,tN⟩),(3069696,⟨CL.T,CL⟩),(3073792,⟨DY.T,DY⟩),(3077888,⟨DY.T,DY⟩),(3081984,⟨CI.T,CI⟩),(3086080,⟨HS.T,HS⟩),(3090176,⟨NS.T,NS⟩),(3094336,⟨ye.T,ye⟩),(3098368,⟨CI.T,CI⟩),(3102528,⟨ye.T,ye⟩),(3106624,⟨tN.T,tN⟩),(3110656,⟨CI.T,CI⟩),(3114816,⟨ye.T,ye⟩),(3118848,⟨CI.T,CI⟩),(3122944,⟨NT.T,NT⟩),(3127040,⟨DY.T,DY⟩),(3131072,⟨DX.T,DX⟩),(3135232,⟨HS.T,HS⟩),(3139392,⟨tN.T,tN⟩),(3143488,⟨tN.T,tN⟩),(3147520,⟨DY.T,DY⟩),(3151616,⟨NT.T,NT⟩),(3155648,⟨DX.T,DX⟩),(3159808,⟨HS.T,HS⟩),(3163904,⟨CI.T,CI⟩),(3168064,⟨tN.T,tN⟩),(3172032,⟨DX.T,DX⟩),(3176192,⟨HT.T,HT⟩),(3180288,⟨HT.T,HT⟩)]
def yl:ni:={ out:=Hf outs,elem:=Hf elems,val:=Hf vals,res:=Hf ress }
def dx:List Nat:=[10000,10001,10002,10003,10004,10005,10006,10007,10008,20000,20001,20002,20003,20004,20005,20006,20007,20008,20009,20010,20011]
abbrev eE (n:Nat):List Nat:=[n,Nat.add n 1,Nat.add n 2,Nat.add n 3,Nat.add n 4,Nat.add n 5]
def hints:List (Nat×Hint):=[
 (3,{ loops:=[(14,[1,3,4,8,10,12,14],[1,3,8,10,12])] }),
 (7,{ loops:=[(4,[1,3],[1])] }),
 (9,{ owns:=[112,129],use:=[112,129],rI:=[(112,0,[]),(129,0,[])] }),
 (10,{ owns:=[10],use:=[9],bx:=[5160],rI:=[(10,3000000,[])] }),
 (12,{ rows:=[44],fu:=[44],owns:=[47],use:=[46,47],rI:=[(47,3004096,[0])] }),
 (13,{ loops:=[(3,[0,3,4,5,6],[3,4,5]++eE 5080),(7,[0,3,4,5,7],[3,4,5]++eE 5080),(12,[0,3,4,5,7,8,9,10],[3,4,5,8]++eE 5080++eE 5128++eE 5704)],rows:=[5,8,44],mX:=[(15,eE 5128++eE 5704),(16,eE 5080)] }),
 (15,{ loops:=[(3,[3,4,6,16,17,18],[2,3,4,10,14,68]++eE 5160++eE 5208++eE 6104),(9,[3,4,6,9],[2,3,4,10,14,68]++eE 5160++eE 5208++eE 6104),(15,[4,6,10,72,73],[2,4,10,14,68]++eE 5160++eE 5208++eE 6104)],rows:=[10,13,69],mX:=[(19,[68]++eE 5160++eE 6104)],stay:=[68],owns:=[68] }),
 (17,{ loops:=[(5,[2,3,5,7],[2,3,5]),(11,[2,3,5,7,8,9],[2,3,5,8])] }),
 (18,{ loops:=[(5,[2,3,19,20,21],[2,3]),(8,[2,3,7,19,20,21,26,27,28],[2,3,7])] }),
 (19,{ lz:=[10],owns:=[16],use:=[13],rI:=[(16,3008192,[5])] }),
 (21,{ loops:=[(5,[2,3,6],[2,3]),(9,[2,3,6,7,8],[2,3])] }),
 (23,{ loops:=[(7,[0,2,4,6,8,9],[2,8]++eE 5128)],rows:=[8],lz:=[4,6],mX:=[(12,eE 5128)] }),
 (25,{ loops:=[(4,[0,3],[])] }),
 (27,{ loops:=[(5,[1,2,7],[2,7]),(11,[7,10],[7,10]),(14,[7,10,11,12],[7,10])],rows:=[7,10],owns:=[32],rI:=[(32,3036864,[])] }),
 (28,{ loops:=[(2,[1,2,5],[2])] }),
 (29,{ loops:=[(2,[1,2,5],[2])] }),
 (31,{ loops:=[(7,[8,9,27,28,29],[5416,5417])],lz:=[8],fu:=[55],stay:=[55,63],owns:=[26,55,63],use:=[62],rI:=[(26,0,[]),(63,0,[0])] }),
 (32,{ owns:=[15],use:=[14],rI:=[(15,0,[])] }),
 (33,{ rows:=[5,6],own:=true,Pn:=[(4,[1])],nest:=[(5,1,68,2)] }),
 (34,{ rows:=[8],own:=true,Pn:=[(8,[0,1,2,4])] }),
 (35,{ rows:=[18],use:=[18],bx:=[10000] }),
 (39,{ loops:=[(2,[1,7,8,9],[])] }),
 (40,{ loops:=[(3,[2,3,6,8,12,13,14],[3,6,8]++eE 5128)],rows:=[8],fu:=[45],mX:=[(10,eE 5128)],owns:=[48],use:=[47],rI:=[(48,3040960,[0])] }),
 (41,{ loops:=[(3,[0,5,13,14,15],eE 10000++eE 20000),(7,[0,5,8,13,14,15,23,24,25],[7,8]++eE 5128++eE 5336++eE 10000++eE 20000)],rows:=[4,8,21],mX:=[(11,eE 5128++eE 5336)],own:=true }),
 (42,{ loops:=[(6,[1,2,18,19,20],[1,2])] }),
 (43,{ loops:=[(2,[0,2,4,18,19,20],[4]++dx),(8,[0,2,44,45,46],dx)] }),
 (44,{ rows:=[2,5],stay:=[7],own:=true }),
 (45,{ loops:=[(4,[5,6,7],[])] }),
 (47,{ loops:=[(5,[2,3,5,20,21,22],[2,3,5]),(10,[2,3,5,20,21,22,33,34,35],[2,3,5,8])] }),
 (48,{ loops:=[(2,[2,15,16,17],[])] }),
 (50,{ loops:=[(10,[3,5,10,16],[10]++eE 10000++eE 20000)],rows:=[13],fu:=[98,121,133,148,165,176],owns:=[99,122,134,149,166,177],use:=[93,97,114,128,132,141,147,157,171,175],own:=true,rI:=[(99,3012288,[5]),(122,3016384,[5]),(134,3020480,[5]),(149,3024576,[5]),(166,3028672,[5]),(177,3032768,[5])] }),
 (51,{ loops:=[(4,[1,3],[1])] }),
 (52,{ loops:=[(3,[2,8,9],[])],lz:=[8] }),
 (53,{ loops:=[(3,[3,4,5,8,22,23],[3,4,5,20]),(10,[3,5,8,10,33,34,35],[3,4,5,20]),(16,[3,5,8,10,13,33,34,35,60,61,62],[3,4,5,12,20])],rows:=[20] }),
 (54,{ loops:=[(8,[0,5,7,8,9],[8]),(12,[0,5,7,8,9,10,11],[8,10])],rows:=[8,10],lz:=[5,7,12],mX:=[(17,[10])] }),
 (55,{ loops:=[(7,[0,5,6,7],[6]),(15,[0,5,6,8,9,10],[6]),(19,[0,5,6,8,9,10,11,12],[6,11])],rows:=[6,13],lz:=[5,8,9] }),
 (56,{ loops:=[(3,[0,1,5,6],[5]),(8,[0,1,5,6,7,8],[5])],rows:=[5] }),
 (57,{ loops:=[(8,[0,5,7,8,9],[8])],rows:=[8],lz:=[5,7] }),
 (58,{ loops:=[(5,[2,6,7,8],[6,7,14]++eE 5112++eE 5160)],rows:=[7,10,14],mX:=[(8,[14]++eE 5112++eE 5160)] }),
 (59,{ loops:=[(4,[1,3],[1])] }),
 (62,{ loops:=[(4,[1,3],[1])] }),
 (63,{ loops:=[(2,[0,3],[]),(7,[0,4],[]),(11,[0,4,5,6],[]),(16,[0,7],[7])],rows:=[7] }),
 (64,{ loops:=[(6,[1,3,5,6,10,11],[3,5,6,8,10]++eE 5160++eE 5496++eE 10000),(14,[1,6,10,14,15],[6,8,10]++eE 5160++eE 5496++eE 10000)],rows:=[10,31],lz:=[14],mX:=[(17,eE 5160++eE 5496)],owns:=[21,47,62],rI:=[(21,3049152,[]),(47,3069632,[]),(62,3073728,[1])] }),
 (65,{ loops:=[(3,[0,1,5,6],[])] }),
 (66,{ loops:=[(2,[0,1,5],[])] }),
 (68,{ loops:=[(5,[4,5,18,19,20],[5,14,17]),(12,[4,5,32,33,34],[5,14,17]),(19,[4,10,11],[10,11,14,43])],rows:=[11],fu:=[15,40,47,48,65],stay:=[14,16,41,49,69],owns:=[14] }),
 (69,{ loops:=[(6,[0,3,4,7,9,30,31,32],[3,4,7,9]++dx),(14,[0,4,7,9,53,54,55],[4,7,9,5857]++dx)],rows:=[9],owns:=[53],rI:=[(53,0,[1])] }),
 (70,{ stay:=[11] }),
 (71,{ rows:=[6],fu:=[91],stay:=[14,19,25,30,40,45,54,67,77,82,88,93],own:=true }),
 (72,{ rows:=[2,5],stay:=[7],own:=true }),
 (73,{ loops:=[(4,[6,7,8,19,20,21],[6,16]),(8,[6,7,8,19,20,21,29,30,31],[6,16])],fu:=[18],bx:=[16] }),
 (74,{ loops:=[(14,[2,3,48,49,50],[2,3]++dx)],fu:=[64],bx:=[10000] }),
 (75,{ fu:=[83],bx:=[10000] }),
 (76,{ stay:=[8] }),
 (77,{ loops:=[(2,[1,8,9,10],[2])] }),
 (78,{ loops:=[(5,[1,5,13,14,15],[2,11])] }),
 (79,{ loops:=[(8,[2,4,5,8,22,23,24],[2,4,5,6,8,13,20]++eE 5096++eE 5128++eE 5336),(12,[2,4,5,8,9,10,11,22,23,24,38,39],[2,4,5,6,8,13,20,36]++eE 5096++eE 5128++eE 5336)],rows:=[6,8,20,21],fu:=[14],mX:=[(16,[36]),(18,[20]++eE 5128++eE 5336)],stay:=[35,36],owns:=[36] }),
 (81,{ loops:=[(3,[1,3,4],[1,10]),(8,[1,3,4,5,6],[1,10])],rows:=[10] }),
 (82,{ loops:=[(6,[1,3],[1])] }),
 (83,{ loops:=[(3,[1,2,4,5,6],[2,4,7,14]++eE 5112++eE 5208),(9,[2,4,5,7,8],[2,4,7,14]++eE 5112++eE 5208),(14,[2,4,5,7,8,9,10,11],[2,4,7,9,14,56]++eE 5112++eE 5208)],rows:=[7,13],mX:=[(17,[56]),(18,eE 5112)],owns:=[56] }),
 (85,{ loops:=[(2,[1,7,8,9],[])] }),
 (87,{ lz:=[7] }),
 (89,{ loops:=[(3,[1,3,4,5,6,8,14,15],[6,8]++eE 10000++eE 20000)],rows:=[13],fu:=[34],owns:=[35],use:=[27],own:=true,rI:=[(35,3053248,[5])] }),
 (90,{ loops:=[(2,[2,3,4,5,9],[4,5])] }),
 (91,{ rows:=[13],fu:=[48],owns:=[49],use:=[44,47],own:=true,rI:=[(49,3045056,[5])] }),
 (92,{ loops:=[(3,[1,3,4,5,6,8,16],[6,8]++eE 10000++eE 20000)],rows:=[14],fu:=[58],owns:=[59],use:=[51],own:=true,rI:=[(59,3057344,[5])] }),
 (93,{ loops:=[(2,[1,8,9,10],[2])] }),
 (94,{ loops:=[(11,[0,3,5,7],[]),(17,[0,3,5,10],[]),(20,[0,3,5,10,11],[])],lz:=[3,5,12] }),
 (95,{ loops:=[(3,[0,3,4],[]),(6,[0,3,4,5],[])],lz:=[3] }),
 (96,{ loops:=[(4,[0,1,2,3,10,11,12],[])],lz:=[11] }),
 (97,{ loops:=[(3,[0,5,6],[])],lz:=[5] }),
 (98,{ loops:=[(12,[0,6,7],[])] }),
 (99,{ loops:=[(3,[0,3,4],[])],lz:=[3] }),
 (100,{ loops:=[(4,[1,7,8,9],[8])],rows:=[8],lz:=[7,10] }),
 (101,{ loops:=[(3,[3,4],[7]),(6,[3,4,5],[7])],rows:=[7],lz:=[6] }),
 (102,{ loops:=[(3,[0,1,2,3,9,10],[9]),(12,[9,11,12],[9])],rows:=[9] }),
 (105,{ loops:=[(3,[0,1,6,7],[])],lz:=[6,10] }),
 (106,{ loops:=[(2,[0,1,5],[])] }),
 (108,{ loops:=[(4,[1,2,3,7],[3]),(10,[1,2,3,8,9],[3])] }),
 (109,{ loops:=[(11,[2,5,6],[2])] }),
 (110,{ loops:=[(2,[0,1,5],[])] }),
 (111,{ loops:=[(3,[1,3,4],[1,5121])],fu:=[20],owns:=[7,21],rI:=[(7,3077824,[1]),(21,3126976,[1])] }),
 (112,{ rows:=[20],owns:=[19,22],use:=[19],rI:=[(19,3061440,[]),(22,3065536,[])] }),
 (113,{ loops:=[(4,[1,2,5],[2]++eE 10000++eE 20000)],rows:=[4],fu:=[33],owns:=[34],own:=true,rI:=[(34,3147456,[1])] }),
 (114,{ loops:=[(3,[0,5,6],[])] }),
 (115,{ loops:=[(3,[0,1,5,6],[5])],rows:=[5] }),
 (116,{ rows:=[2,5],stay:=[7],own:=true }),
 (117,{ fu:=[4],stay:=[6,8] }),
 (120,{ stay:=[7] }),
 (121,{ loops:=[(3,[4,16,17,18],[1,5192,5193])],lz:=[3,7,8],owns:=[12,24],rI:=[(12,0,[]),(24,0,[])] }),
 (123,{ loops:=[(2,[0,1,7,8],dx)],stay:=[7,16] }),
 (124,{ fu:=[6],stay:=[7] }),
 (126,{ stay:=[12,19,26,29] }),
 (127,{ loops:=[(4,[1,23,24,25],[2]++eE 10000++eE 20000)],rows:=[4],fu:=[30],stay:=[14],owns:=[31],own:=true,rI:=[(31,0,[1])] }),
 (128,{ loops:=[(3,[0,1,2,8,9,10],dx)],stay:=[13,30,46] }),
 (131,{ fu:=[4],stay:=[6,9] }),
 (133,{ loops:=[(3,[1,3,12,13,14],[1,3]),(9,[3,6,36,37,38],[3,6])],rows:=[3] }),
 (134,{ bx:=[10001,10002] }),
 (135,{ bx:=[10001] }),
 (136,{ bx:=[10000] }),
 (139,{ bx:=[10002] }),
 (140,{ loops:=[(3,[0,7,12,13,14],[11]++dx)],stay:=[11],owns:=[11] }),
 (141,{ loops:=[(2,[0,2,10,11,12],dx)],bx:=[10000] }),
 (142,{ loops:=[(2,[0,1,7,8],dx)],stay:=[7,16] }),
 (144,{ loops:=[(3,[2,4,25,26,27],[25]++dx)],stay:=[24,25],owns:=[25] }),
 (145,{ rows:=[4],fu:=[8],stay:=[7,10],own:=true }),
 (148,{ stay:=[29] }),
 (149,{ loops:=[(2,[0,1,5],[]),(7,[0,1,5,6],[])] }),
 (150,{ loops:=[(4,[0,4,5],dx)],lz:=[4],owns:=[36] }),
 (151,{ loops:=[(3,[0,3,4],[3,6]),(6,[0,3,4,5],[3,6])],rows:=[2,3,6],mvs:=[2,3,6],own:=true }),
 (152,{ stay:=[20] }),
 (154,{ loops:=[(3,[3,4,5,8,9],[3,4,5,20]),(8,[3,4,5,8,10,11],[3,4,5,20,30]),(15,[3,4,5,8,10,11,12,13,14],[3,4,5,20,30])],rows:=[20,30],lz:=[13] }),
 (155,{ loops:=[(3,[2,8,9],[])] }),
 (156,{ loops:=[(3,[0,3,4],[]),(7,[0,3,4,5,6],[]),(12,[0,3,4,5,6,7],[])],lz:=[3,5] }),
 (157,{ loops:=[(3,[0,1,5,6],[5])],rows:=[5] }),
 (158,{ loops:=[(2,[1,2,6],[2])] }),
 (159,{ loops:=[(3,[0,1,5,6],[5])],rows:=[5] }),
 (160,{ loops:=[(2,[0,3],[])],rows:=[18] }),
 (161,{ loops:=[(4,[0,1,5],[])] }),
 (162,{ loops:=[(4,[0,3],[])] }),
 (163,{ loops:=[(2,[0,3],[])] }),
 (164,{ loops:=[(2,[0,3],[]),(6,[0,3,4,5],[])],lz:=[4] }),
 (165,{ loops:=[(3,[0,3,4],[3]),(7,[0,3,4,5,6],[3])],rows:=[3] }),
 (166,{ loops:=[(5,[0,5,6],[15]),(8,[0,5,6,7],[15]),(14,[5,8,9],[15])],rows:=[15],lz:=[8] }),
 (167,{ loops:=[(2,[0,1,5],[])] }),
 (168,{ loops:=[(3,[0,4,5],[6])],rows:=[6] }),
 (169,{ loops:=[(2,[0,1,5],[])] }),
 (172,{ loops:=[(4,[0,5,6,7],[5]),(9,[0,5,6,7,8,9,10],[5])],rows:=[5],lz:=[6,8] }),
 (174,{ loops:=[(4,[0,1,5],[])] }),
 (175,{ loops:=[(6,[1,3],[1])] }),
 (176,{ loops:=[(12,[1,3,5,7],[3,5]),(17,[1,3,5,8],[3,5])] }),
 (177,{ loops:=[(11,[1,3,5,7,9,10,11,12],[5,7,9,10]++eE 10000++eE 20000),(18,[1,5,7,9,10,13,14],[5,7,9,10,72]++eE 10000++eE 20000)],rows:=[72],owns:=[29,43,51,68,100,109,117,129,145,149,160,169,177],use:=[26,34,48,62,95,106,108,116,123,128,138,148,157,159,168,172,176],own:=true,rI:=[(29,3081920,[]),(43,3086016,[]),(51,3090112,[]),(68,3139264,[]),(100,3143360,[]),(109,3094208,[]),(117,3098304,[]),(129,3102400,[]),(145,3106496,[]),(149,3110592,[]),(160,3114688,[]),(169,3118784,[]),(177,3122880,[])] }),
 (178,{ loops:=[(3,[2,3,4,6,7],[2,3,4,6,13]++eE 5208),(7,[2,3,4,6,8],[2,3,4,6,13]++eE 5208),(10,[2,3,4,6,9,10],[2,3,4,6,13]++eE 5208),(14,[2,3,4,6,9,10,11,12],[2,3,4,6,13]++eE 5208),(21,[3,4,6,13,14],[3,4,6,13]++eE 5208)],rows:=[6,13,32],lz:=[9],fu:=[55],mX:=[(24,eE 5208)] }),
 (179,{ loops:=[(2,[0,1,5],[])] }),
 (181,{ loops:=[(2,[0,1,2,6,7,8],dx),(7,[0,1,2,6],dx),(9,[0,1,2,6,7,8],dx)],fu:=[14,23,36,55],stay:=[18,27,43,60] }),
 (183,{ loops:=[(2,[0,1,7,8],dx)],stay:=[7,16] }),
 (184,{ loops:=[(6,[4,5,13,14,15],[4,5,13]++eE 5064++eE 5080)],rows:=[2,3,4,5],fu:=[9,13,21,26],stay:=[22,27],own:=true }),
 (185,{ stay:=[7] }),
 (186,{ fu:=[6,10,12],stay:=[7,11,13] }),
 (188,{ rows:=[9] }),
 (189,{ loops:=[(3,[0,3,4,5,13,14,15],[3,4,5]++eE 5080),(8,[0,4,5,33,34,35],[3,4,5]++eE 5080),(12,[0,4,5,10,33,34,35,43,44,45],[3,4,5,9,10]++eE 5080++eE 5160++eE 5656)],rows:=[5,10,41],mX:=[(16,eE 5160++eE 5656),(18,eE 5080)] }),
 (191,{ loops:=[(3,[2,3,8,9],[2,3,5]++eE 5048++eE 5112)],rows:=[3,7],mX:=[(7,eE 5048++eE 5112)] }),
 (192,{ loops:=[(3,[3,9,10,11],[1]),(6,[3,9,10,11,16,17,18],[1,5])] }),
 (193,{ loops:=[(4,[3,4,13,14,15],[1,4]),(7,[3,4,5,13,14,15,21,22,23],[1,4,6])],rows:=[4],lz:=[9],stay:=[31,42],owns:=[31] }),
 (194,{ rows:=[22] }),
 (195,{ loops:=[(2,[0,1,7,8],dx)],bx:=[10001,10002] }),
 (197,{ rows:=[2,5],stay:=[7],own:=true }),
 (198,{ stay:=[4] }),
 (199,{ fu:=[7],stay:=[6,11,13] }),
 (200,{ loops:=[(1,[0,5,6,7],dx)],stay:=[6,13] }),
 (202,{ loops:=[(3,[0,1,5,14,15],[12])],rows:=[12] }),
 (205,{ loops:=[(2,[0,1,2,11,12,13],dx)],stay:=[12,20,29,35,37] }),
 (206,{ stay:=[27] }),
 (208,{ loops:=[(2,[0,1,5],[])] }),
 (209,{ loops:=[(2,[1,2,5],[2])] }),
 (210,{ loops:=[(3,[0,1,5,6],[])],lz:=[5] }),
 (211,{ loops:=[(5,[0,5,6],[16]),(9,[0,5,6,7,8],[16]),(15,[5,9,10],[16])],rows:=[16],lz:=[7,9] }),
 (212,{ loops:=[(3,[0,3,4],[3])],rows:=[3] }),
 (216,{ loops:=[(13,[1,3,4],[1])] }),
 (217,{ owns:=[15,16],use:=[11,15],own:=true,rI:=[(15,3131072,[]),(16,3135168,[])] }),
 (218,{ own:=true }),
 (219,{ loops:=[(2,[2,3,4,5,8,9],[4,5,8]++eE 20000)],owns:=[34,46,47],use:=[32,33,45,46],own:=true,rI:=[(34,3151552,[]),(46,3155648,[]),(47,3159744,[])] }),
 (220,{ loops:=[(2,[1,3,4,5,7,10,11],[5,7,10]++eE 10000++eE 20000)],owns:=[27,39],use:=[26,34],own:=true,rI:=[(27,3163840,[]),(39,3167936,[])] }),
 (221,{ loops:=[(2,[1,2,7],[8])],rows:=[8] }),
 (222,{ own:=true }),
 (224,{ loops:=[(2,[0,1,5],[])] }),
 (225,{ loops:=[(1,[0,1,2,3,8],dx),(4,[0,1,2,3,8,9],dx)],stay:=[32] }),
 (226,{ loops:=[(3,[0,1,4,10,11],dx),(9,[0,10,13],dx),(15,[0,2,4,14,15],dx),(21,[0,14,17],dx),(33,[0,1,2,3,4,18,19,20,21,22],dx)],fu:=[186,200,214],stay:=[49,101,169,191,205,219] }),
 (228,{ loops:=[(7,[3,24,25,26],[4]++dx)] }),
 (229,{ fu:=[5],stay:=[4,9,10] }),
 (230,{ loops:=[(4,[0,3],[10000]),(9,[0,3,4,5],[10000])],lz:=[4],stay:=[7,12,31] }),
 (231,{ loops:=[(2,[0,1,7,8],[])],stay:=[7] }),
 (232,{ loops:=[(1,[0,2,3],[10000])],stay:=[5] }),
 (233,{ rows:=[10] }),
 (236,{ loops:=[(12,[2,6,7,8,40,41,42],[2,8]++eE 5128++eE 5624)],rows:=[8,39],lz:=[4,6,7],mX:=[(16,eE 5128++eE 5624)] }),
 (237,{ loops:=[(4,[0,1,12,13],[])],stay:=[7,9,12] }),
 (238,{ loops:=[(2,[0,4,15,16,17],dx),(8,[0,4,7,15,16,17,46,47,48],[6,7]++dx)],rows:=[7],mX:=[(12,[7])] }),
 (239,{ loops:=[(3,[3,7,8],[3,7,15]++eE 5112++dx)],rows:=[7,15],fu:=[16] }),
 (240,{ loops:=[(3,[1,2,4,5,16,17],[2,4,5,7,14]++eE 5080++eE 5112++dx)],rows:=[5,7,14],fu:=[24],mX:=[(11,eE 5112)] }),
 (242,{ loops:=[(2,[0,1,2,3,4,10,11],dx)],fu:=[26,33,40,57,76,98,106,129,140],stay:=[30,37,44,52,61,80,94,103,111,134,146] }),
 (245,{ loops:=[(2,[0,3],[])] }),
 (246,{ loops:=[(3,[3,6,7,8],[])] }),
 (247,{ loops:=[(2,[0,1,2,11,12,13],dx)],stay:=[12,20,29,35,37] }),
 (254,{ loops:=[(2,[0,2,4,10,11],dx)],fu:=[24,35,50],stay:=[31,46,57] }),
 (255,{ loops:=[(2,[0,1,2,3,8,9],[10000])],fu:=[24,30,36,51,69,88,95,117,127],stay:=[27,33,39,46,54,72,85,92,99,121,132] }),
 (256,{ loops:=[(4,[0,1,3,4,5,6],[12,15,16]++dx),(8,[0,1,3,4,5,6,42,43,44],[12,15,16]++dx)],rows:=[12,15,16],stay:=[68],owns:=[68],use:=[72] }),
 (258,{ loops:=[(6,[4,6,20,21,22],[6])],rows:=[6] }),
 (260,{ loops:=[(10,[0,5,6,9,34,35,36],[9]),(18,[0,5,6,9,12,14,34,35,36,53,54,55],[9,12,14])],rows:=[9,14],lz:=[5,6,7],fu:=[77] }),
 (261,{ loops:=[(3,[1,2,5,6,12,13],[2,5,6]),(9,[2,5,6,30,31,32],[2,5,6])],rows:=[5,6],mX:=[(8,[2])] }),
 (262,{ loops:=[(8,[0,2,3,9,10,11],[11]++dx)],rows:=[11],lz:=[9,10],use:=[150] }),
 (263,{ loops:=[(1,[0,1],dx)] }),
 (264,{ loops:=[(9,[3,4,7,8,49,50,51],[8]++dx)],rows:=[8],use:=[69] }),
 (265,{ loops:=[(1,[0,1,2,3,8],dx),(4,[0,1,2,3,8,9],dx)],stay:=[32] }),
 (266,{ loops:=[(4,[0,3,8,9,10,11],dx),(8,[0,3,8,9,12],dx)],fu:=[24,54],stay:=[29,59] }),
 (267,{ loops:=[(5,[0,1,8,9,10,11],[9]++dx)],stay:=[21,38] }),
 (268,{ stay:=[40,44,48,54] }),
 (269,{ loops:=[(2,[0,8,9],dx)] }),
 (270,{ loops:=[(3,[0,1,2,3,9,10],dx),(5,[0,1,2,3,9,10],dx),(14,[0,1,2,3,9,10,11],dx),(20,[0,1,2,3,9,10,12],dx)],stay:=[33,82,122] }),
 (271,{ loops:=[(3,[0,1,4,11,12],dx),(5,[0,1,4,11,12],dx)],stay:=[44,63] }),
 (272,{ loops:=[(3,[0,1,4,12,13],dx),(5,[0,1,4,12,13],dx),(13,[0,1,4,12,13],dx),(15,[0,1,4,12,13],dx)],stay:=[45,63,118,136] }),
 (275,{ owns:=[20],use:=[20] }),
 (276,{ rows:=[38],mX:=[(3,[5304])],owns:=[11,13,19,27],use:=[12,18,27,38],rI:=[(11,3172032,[]),(13,3176128,[]),(19,3180224,[])] }),
 (277,{ loops:=[(2,[1,2,6],[2])] }),
 (278,{ loops:=[(1,[0,1,2,3,10],dx)] }),
 (279,{ loops:=[(1,[0,1,2,6],[10000]),(4,[0,1,2,6,7],[10000])],stay:=[29] }),
 (280,{ loops:=[(4,[0,6,7,8,9],[10000]),(8,[0,6,7,10],[10000])],fu:=[22,51],stay:=[26,55] }),
 (281,{ loops:=[(5,[0,1,6,7,8,9],[7,10000])],stay:=[19,36] }),
 (282,{ stay:=[37,40,43,48] }),
 (283,{ loops:=[(2,[0,6,7],[10000])] }),
 (284,{ loops:=[(3,[0,1,2,7,8],[10000]),(5,[0,1,2,7,8],[10000]),(14,[0,1,2,7,8,9],[10000]),(20,[0,1,2,7,8,10],[10000])],stay:=[30,77,115] }),
 (286,{ loops:=[(3,[0,1,9,10],[10000]),(5,[0,1,9,10],[10000])],stay:=[41,58] }),
 (287,{ loops:=[(3,[0,1,10,11],[10000]),(5,[0,1,10,11],[10000]),(13,[0,1,10,11],[10000]),(15,[0,1,10,11],[10000])],stay:=[42,58,111,127] }),
 (289,{ loops:=[(6,[4,6,24,25,26],[21,23]++eE 5352)],rows:=[22],lz:=[4],mX:=[(8,[8])],stay:=[38] }),
 (290,{ loops:=[(11,[0,5,20,21,22],[])] }),
 (291,{ loops:=[(3,[0,4,15,16,17],[4]),(10,[0,4,7,32,33,34],[4,31]),(14,[0,4,7,8,10,32,33,34,41,42,43],[4,10,31])],rows:=[4,10,31],fu:=[27] }),
 (292,{ loops:=[(5,[5,6,13,14,15],[4,5,11]++eE 5080),(10,[5,6,9],[4,5,11]++eE 5080),(13,[5,6,9,10],[4,5,11]++eE 5080)],rows:=[5],lz:=[8],fu:=[12] }),
 (293,{ loops:=[(2,[1,7,8,9],dx)],lz:=[6] }),
 (295,{ loops:=[(3,[3,6,7,8],[3]),(5,[3,4,5,6,7,8],[3])],rows:=[3] }),
 (296,{ loops:=[(12,[0,1,5,39,40,41],[]),(22,[1,8,63,64,65],[8]++eE 5128)],rows:=[8] }),
 (297,{ loops:=[(5,[5,6,7,17,18,19],[7])],rows:=[7],lz:=[5] }),
 (298,{ fu:=[7],stay:=[6,11,13] }),
 (300,{ loops:=[(3,[3,6,7,8],[])] }),
 (304,{ stay:=[7] }),
 (305,{ loops:=[(1,[0,2,3,4,10],dx)],stay:=[38,56] }),
 (306,{ stay:=[5] }),
 (308,{ stay:=[17] }),
 (309,{ stay:=[19,28,37] }),
 (310,{ loops:=[(3,[0,1,5,6],[9]),(7,[0,1,5,6,7,8],[7,9]++eE 5112++eE 5368)],rows:=[7,9,23],mX:=[(10,eE 5112++eE 5368)] }),
 (311,{ loops:=[(5,[0,1,5,6,7,8],[7,20,23]),(11,[5,6,7,9],[7,20,23]),(17,[5,6,7,9,10,11,12],[7,20,23]),(23,[5,6,7,9,10,11,13,14],[7,20,23,112])],rows:=[7,23,112],owns:=[20],use:=[158] }),
 (312,{ loops:=[(5,[7,8,9,10],[29])],rows:=[29] }),
 (313,{ loops:=[(3,[0,3,4],[3])],rows:=[2,3],mvs:=[2,3],own:=true }),
 (314,{ loops:=[(3,[1,2,3,8,9],[3,15]),(10,[1,2,8,12],[15])],rows:=[15] }),
 (315,{ loops:=[(3,[0,1,2,3,8,9,10],[8,9]++eE 5144),(7,[0,1,3,8,9,11],[8,9]++eE 5144),(11,[0,1,3,8,9,11,12,13],[8,9]++eE 5144)],rows:=[9],mX:=[(17,eE 5144)],take:=[79],Pn:=[(29,[1])],nest:=[(5128,1,68,2),(5144,1,68,2)] }),
 (316,{ loops:=[(3,[1,2,4,6,7],[2,4,9000,9001,9002]++eE 20000)],own:=true,take:=[45],Pn:=[(33,[1])],nest:=[(5064,1,68,2)] }),
 (317,{ loops:=[(1,[0,2,3,8],[10000])],stay:=[35,51] }),
 (318,{ stay:=[14] }),
 (319,{ stay:=[16,24,32] }),
 (321,{ lz:=[8],fu:=[30] }),
 (322,{ loops:=[(2,[0,1,7,8],dx)],stay:=[7,16] }),
 (324,{ loops:=[(3,[0,3,19,20,21],[15]++dx),(6,[0,3,19,20,21,26,27,28],[5,15]++dx),(14,[0,3,43,44,45],[15]++dx),(17,[0,3,9,43,44,45,50,51,52],[9,15]++dx),(29,[0,82],[82]++dx)],fu:=[100],stay:=[66,101] }),
 (325,{ loops:=[(2,[1,10,11,12],[1]++dx)],fu:=[20],stay:=[18,21] }),
 (326,{ loops:=[(2,[0,15,16],dx),(7,[0,4,5,15,16,25,26,27],[4]++dx)],rows:=[4],lz:=[8],mX:=[(16,[4])],stay:=[21] }),
 (328,{ loops:=[(3,[3,9,10,11],[8])] }),
 (329,{ loops:=[(3,[3,12,13,14],[]),(6,[3,5,12,13,14,19,20,21],[5])],lz:=[8] }),
 (330,{ loops:=[(5,[3,4,5,18,19,20],[5,16,17]),(11,[3,4,5,7,18,19,20,40,41,42],[5,7,16,17]),(17,[3,4,5,10],[5,10,16,17]),(22,[3,4,5,10,71,72,73],[5,10,16,17])],rows:=[5,10,17,46,48],fu:=[62],mX:=[(16,[17])] }),
 (331,{ loops:=[(3,[1,5,15,16,17],[14]),(9,[1,5,7,15,16,17,34,35,36],[7,14])],rows:=[14,30,40,42],lz:=[8],mX:=[(14,[14])] }),
 (332,{ loops:=[(3,[0,1,6,7,8],[])],stay:=[11,27,47,50] }),
 (333,{ loops:=[(3,[0,4,10,11,12],[]),(11,[7,30,31,32],[29])],rows:=[29] }),
 (335,{ loops:=[(3,[3,11,12,13],[10]),(6,[3,5,6,11,12,13],[10])],rows:=[10] }),
 (340,{ loops:=[(4,[5,6,13,14,15],[6])],rows:=[6],lz:=[9],fu:=[31,33] }),
 (341,{ loops:=[(3,[3,9,10,11],[8])] }),
 (342,{ loops:=[(7,[0,7,8,9],[20,24]),(10,[0,7,8,9,36,37,38],[20,24])],rows:=[24],lz:=[5],fu:=[53] }),
 (344,{ loops:=[(2,[0,1,2,3,4,10,11],dx)],fu:=[26,33,40,57,76,98,106,129,140],stay:=[30,37,44,52,61,80,94,103,111,134,146] }),
 (346,{ loops:=[(2,[0,1,7,8],dx)],stay:=[7,16] }),
 (347,{ stay:=[21] }),
 (348,{ loops:=[(2,[0,1,6],[])] }),
 (349,{ stay:=[18] }),
 (352,{ loops:=[(1,[0,1,4],[10000])] }),
 (353,{ loops:=[(11,[0,1,3,4,10,11,12,13,14,15,16],[12,10000]),(18,[0,1,3,4,10,11,12,13,17],[12,10000])] }),
 (355,{ stay:=[7] }),
 (357,{ loops:=[(3,[0,3,5,11,12,13],[3,5]++dx)],rows:=[5],mX:=[(2,[3])],stay:=[20] }),
 (358,{ fu:=[6],stay:=[7] }),
 (360,{ loops:=[(4,[1,2,5,6,16,17,18],[2,5,11]++dx),(8,[1,2,5,6,16,17,18,36,37,38],[2,5,8,11]++dx)],fu:=[12],stay:=[33],keep:=[10001,10002,10003,10004] }),
 (362,{ stay:=[7] }),
 (365,{ loops:=[(5,[0,3,4],[])],stay:=[6,14,23] }),
 (366,{ loops:=[(5,[0,1,5,6],dx)],stay:=[10,18,28] }),
 (370,{ lz:=[4] }),
 (371,{ loops:=[(1,[0,1,2,3,8],dx),(4,[0,1,2,3,8,9],dx)],stay:=[32] }),
 (372,{ loops:=[(4,[0,3,8,9,10,11],dx),(8,[0,3,8,9,12],dx)],fu:=[24,54],stay:=[29,59] }),
 (373,{ loops:=[(5,[0,1,8,9,10,11],[9]++dx)],stay:=[21,38] }),
 (374,{ stay:=[40,44,48,54] }),
 (375,{ loops:=[(2,[0,8,9],dx)] }),
 (376,{ loops:=[(3,[0,1,2,3,9,10],dx),(5,[0,1,2,3,9,10],dx),(14,[0,1,2,3,9,10,11],dx),(20,[0,1,2,3,9,10,12],dx)],stay:=[33,82,122] }),
 (377,{ loops:=[(3,[0,1,4,11,12],dx),(5,[0,1,4,11,12],dx)],stay:=[44,63] }),
 (378,{ loops:=[(3,[0,1,4,12,13],dx),(5,[0,1,4,12,13],dx),(13,[0,1,4,12,13],dx),(15,[0,1,4,12,13],dx)],stay:=[45,63,118,136] }),
 (383,{ loops:=[(4,[1,16],[16]++dx)] }),
 (385,{ loops:=[(2,[0,1,7,8],dx)],stay:=[7,16] }),
 (387,{ lz:=[4,5],stay:=[10] }),
 (389,{ loops:=[(2,[1,7,8,9],dx)] }),
 (391,{ loops:=[(2,[0,1,7,8],dx)],stay:=[7,16] }),
 (395,{ loops:=[(1,[0,2,3,4,10],dx)],stay:=[38,56] }),
 (396,{ stay:=[17] }),
 (397,{ stay:=[19,28,37] }),
 (400,{ stay:=[21] })]
def H (f:Nat):Hint:=(find hints f).getD {}
def gR:eN:=λf args cG=>match f,args,cG with
 |197,[.pv (.dG 1 xs)],[]=>bif Nat.ble (xs.length *8) 140737488355328 then some (.gX [.gX [.self 3, .dG 1 xs]],[]) else none
 |44,[.pv (.dG 2 xs)],[]=>bif Nat.ble (xs.length *32) 140737488355328 then some (.gX [.gX [.self 71, .dG 2 xs]],[]) else none
 |72,[.pv (.dG 3 xs)],[]=>bif Nat.ble (xs.length *64) 140737488355328 then some (.gX [.gX [.self 76, .dG 3 xs]],[]) else none
 |116,[.pv (.dG 6 xs)],[]=>bif Nat.ble (xs.length *112) 140737488355328 then some (.gX [.gX [.self 73, .dG 6 xs]],[]) else none
 |229,[.row 10000],[(10000, .row 9 1 xs)]=>match strs xs with
  |some l=>bif Nat.ble l.length 1073741824 then some (.gX [],[(10000, .row 9 1 ((tR Op.bytesLess l).map pE))]) else none
  |none=>none
 |145,[.pv (.fn 200 [.ref [.dG 2 xs]]), .pv (.fn 147 [])],[]=>match Bh xs with
  |some l=>bif Bg l&&Nat.ble l.length 1073741824 then some (.gX [.gX [.self 68, .dG 2 ((tR V7 l).map Sg)]],[]) else none
  |none=>none
 |119,[.pv (.str a), .pv (.str b)],[]=>some (.int .i64 (L8 a b),[])
 |126,[.row 10000, .pv (.int .i64 i), .pv (.int .i64 j)],[(10000, .row e 6 xs)]=>bif decide (0<=i)&&decide (i<j)&&decide (j<=xs.length)&&Nat.beq e 73 then some (.self (xs.length-(j-i).toNat),[(10000, .row e 6 (xs.take i.toNat++xs.drop j.toNat++List.replicate (j-i).toNat aeG))]) else none
 |_,_,_=>none
noncomputable abbrev Rn:eN:=run P H gR
instance:Io Node Node.enc:=⟨⟩
instance:Io FSt FSt.enc:=⟨⟩
instance:Io aC aC.enc:=⟨⟩
instance:Io fM fM.enc:=⟨⟩
instance:Io cW cW.enc:=⟨⟩
instance:Io cz cz.enc:=⟨⟩
instance:Io dP dP.enc:=⟨⟩
instance:Io fO fO.enc:=⟨⟩
instance:Io ga ga.enc:=⟨⟩
instance:Io dD dD.enc:=⟨⟩
instance:Io Template Template.enc:=⟨⟩
instance:Io tag tag.enc:=⟨⟩
instance:Io Def Def.enc:=⟨⟩
instance:Io bI bI.enc:=⟨⟩
instance:Io met met.enc:=⟨⟩
instance:Io (List cz) (mF 2 cz.enc):=⟨⟩
instance:Io (List ga) (mF 2 ga.enc):=⟨⟩
instance {x:fM}:En x.Code (dW .u64):=⟨⟩
instance {x:fO}:En x.Code (dW .u64):=⟨⟩
instance {Name:List UInt8} {Path:List Int} {l q:AV} [w:Rw (AV.str Name) l] [z:Rw (AV.dG 1 (List.map (dW .i64) Path)) q]:Rw (tag.enc ⟨Name,Path⟩) [l,q]:=⟨by rw[<-w.e,<-z.e];rfl⟩
instance {l:Int} {q:Int} {w z:AV} [B:Rw (AV.int .i64 l) w] [D:Rw (AV.int .i64 q) z]:Rw (cz.enc ⟨l,q⟩) [w,z]:=⟨by rw[<-B.e,<-D.e];rfl⟩
instance {l:Int} {q:List cz} {w z:AV} [B:Rw (AV.int .i64 l) w] [D:Rw (AV.dG 2 (List.map cz.enc q)) z]:Rw (Node.enc ⟨l,q⟩) [w,z]:=⟨by rw[<-B.e,<-D.e];rfl⟩
instance:Gn RB:=⟨⟩
instance:Gn LZ:=⟨⟩
instance:Gn AQ:=⟨⟩
instance:Gn RC:=⟨⟩
instance:Gn UC:=⟨⟩
instance:Gn HU:=⟨⟩
instance:Gn DX:=⟨⟩
instance:Gn tN:=⟨⟩
instance:Gn DY:=⟨⟩
instance:Gn CI:=⟨⟩
instance:Gn HS:=⟨⟩
instance:Gn NS:=⟨⟩
instance:Gn ye:=⟨⟩
instance:Gn NT:=⟨⟩
instance:Gn HT:=⟨⟩
instance {d:bI}:En d.Kids bI.gQ:=⟨⟩
instance {d:bI}:Ry d.Kids bI.gQ bI.enc:=⟨bI.jX⟩
instance {d:Def}:En d.fc bI.gQ:=⟨⟩
instance {d:Def}:Ry d.fc bI.gQ bI.enc:=⟨bI.jX⟩
theorem eu:Io Int (dW .u64):=⟨⟩
instance:EnR (List (List UInt8)) (pL 1 pE):=⟨⟩
instance:EnR (List Int) (pL 1 (dW .i64)):=⟨⟩
abbrev Lt {l:Type} (f t:Option l):Prop:=∀{r:l},t=some r->f=some r
noncomputable abbrev rn {l:Type} (q:l->AV) (f:Nat) (a:List SV):Option l:=dec (EN q) (Rn f a [])
noncomputable abbrev hd {l:Type} (q:l->AV) (f k:Nat) (e:List (Nat×SV)) (o:List (Nat×Ob)):Option l:=dec (EN q) (AA P yl H gR f k [] e o)
noncomputable abbrev hx {w:Type} (q:w->Out) (f k:Nat) (l:List Nat) (e:List (Nat×SV)) (o:List (Nat×Ob)):Option w:=dec q (AA P yl H gR f k l e o)
abbrev RQ (x:fO):Ob:= .box 115 (List.map .pv (fO.enc x))
abbrev r9 (x:aC):Ob:= .box 124 (List.map .pv (aC.enc x))
abbrev wX (x:state):Ob:= .box 243 (List.map .pv (state.enc x))
abbrev kT (x:bI):Ob:= .box 27 (List.map .pv (bI.enc x))
abbrev cN (x:FSt):Ob:= .box 30 (List.map .pv (FSt.enc x))
abbrev cr (x:aK):Ob:= .box 36 (List.map .pv (aK.enc x))
abbrev qf (x:Node):Ob:= .box 71 (List.map .pv (Node.enc x))
abbrev Ej (x:Def):Ob:= .box 73 (List.map .pv (Def.enc x))
abbrev CO (x:Template):Ob:= .box 76 (List.map .pv (Template.enc x))
abbrev UW (x:world):Ob:= .box 83 (List.map .pv (world.enc x))
abbrev xg (x:List (V3.T×V3.T)):Ob:= .mp 3 3 (fK V3 V3 x).1 (fK V3 V3 x).2
abbrev Tm (x:List (V3.T×V4.T)):Ob:= .mp 3 4 (fK V3 V4 x).1 (fK V3 V4 x).2
abbrev xT (x:List (V9.T×Uy.T)):Ob:= .mp 9 51 (fK V9 Uy x).1 (fK V9 Uy x).2
abbrev UB (x:Bool):SV:= .pv (.bool x)
abbrev Wu (x:cz):SV:= .pv (.agg (cz.enc x))
abbrev Yi (x:Case):SV:= .pv (.agg (Case.enc x))
abbrev TD (x:fO):SV:= .pv (.agg (fO.enc x))
abbrev Pt (x:Def):SV:= .pv (.agg (Def.enc x))
abbrev jZ (x:bI):SV:= .pv (.agg (bI.enc x))
abbrev gq (x:FSt):SV:= .pv (.agg (FSt.enc x))
abbrev bN (x:aK):SV:= .pv (.agg (aK.enc x))
abbrev IM (x:Node):SV:= .pv (.agg (Node.enc x))
abbrev TE (x:Template):SV:= .pv (.agg (Template.enc x))
abbrev Hy (x:aC):SV:= .pv (.agg (aC.enc x))
abbrev TF (x:fM):SV:= .pv (.agg (fM.enc x))
abbrev TG (x:world):SV:= .pv (.agg (world.enc x))
abbrev aD (x:Int):SV:= .pv (.int .i64 x)
abbrev Yj (x:Int):SV:= .pv (.int .u8 x)
abbrev eU (x:List (Int)):SV:= .pv (.dG 1 (List.map (dW .i64) x))
abbrev vp (x:List (List (Int))):SV:= .pv (.dG 1 (List.map (mF 1 (dW .u64)) x))
abbrev Pu (x:List (List (ga))):SV:= .pv (.dG 1 (List.map (mF 2 ga.enc) x))
abbrev gT (x:List (Int)):SV:= .pv (.dG 1 (List.map (dW .u64) x))
abbrev c9 (x:List (List UInt8)):SV:= .pv (.dG 1 (List.map pE x))
abbrev KJ (x:List (ga)):SV:= .pv (.dG 2 (List.map ga.enc x))
abbrev gj (x:List (cz)):SV:= .pv (.dG 2 (List.map cz.enc x))
abbrev gW (x:List (fO)):SV:= .pv (.dG 2 (List.map fO.enc x))
abbrev E4 (x:List (dP)):SV:= .pv (.dG 2 (List.map dP.enc x))
abbrev er (x:List (cW)):SV:= .pv (.dG 2 (List.map cW.enc x))
abbrev c4 (x:List (Node)):SV:= .pv (.dG 2 (List.map Node.enc x))
abbrev cU (x:List (Template)):SV:= .pv (.dG 3 (List.map Template.enc x))
abbrev bH (x:List (aC)):SV:= .pv (.dG 3 (List.map aC.enc x))
abbrev eW (x:List (fM)):SV:= .pv (.dG 4 (List.map fM.enc x))
abbrev oM (x:List (Def)):SV:= .pv (.dG 6 (List.map Def.enc x))
abbrev uo (x:List UInt8):SV:= .pv (.str x)
abbrev fQ (n:Nat):Nat×SV:=(n, .ptr n 0)
abbrev yU (n:Nat):Nat×SV:=(n, .row n)
abbrev B1 (x:List (List (Int))):Ob:= .row 113 1 (List.map (mF 1 (dW .u64)) x)
abbrev yI (x:List (List (ga))):Ob:= .row 117 1 (List.map (mF 2 ga.enc) x)
abbrev x8 (x:List (fM)):Ob:= .row 119 4 (List.map fM.enc x)
abbrev qL (x:List (cW)):Ob:= .row 135 2 (List.map cW.enc x)
abbrev K1 (x:List (ga)):Ob:= .row 155 2 (List.map ga.enc x)
abbrev pN (x:List (met)):Ob:= .row 158 2 (List.map met.enc x)
abbrev qo (x:List (dP)):Ob:= .row 179 2 (List.map dP.enc x)
abbrev yJ (x:List (Int)):Ob:= .row 225 1 (List.map (dW .u64) x)
abbrev pO (x:List (tag)):Ob:= .row 305 2 (List.map tag.enc x)
abbrev ki (x:List (dD)):Ob:= .row 309 2 (List.map dD.enc x)
abbrev Gt (x:List (FSt)):Ob:= .row 30 1 (List.map FSt.enc x)
abbrev dw (x:List (Int)):Ob:= .row 3 1 (List.map (dW .i64) x)
abbrev iO (x:List (cz)):Ob:= .row 68 2 (List.map cz.enc x)
abbrev n4 (x:List (List (cz))):Ob:= .row 69 1 (List.map (mF 2 cz.enc) x)
abbrev dR (x:List (Node)):Ob:= .row 71 2 (List.map Node.enc x)
abbrev gm (x:List (Template)):Ob:= .row 76 3 (List.map Template.enc x)
abbrev gu (x:List (List UInt8)):Ob:= .row 9 1 (List.map pE x)
abbrev tl0:=λl q w z B=>([(10000,(.box 141 [(eW l),(er q),(cU w),(.row 10001),(c4 z)])),(10001,(xT B))]:List (Nat×Ob))
abbrev YJ:=λl q w z B=>([(10000,(.box 297 [(eW l),(er q),(.row 20001),(.row 20002),(.row 20003)])),(20001,(dw w)),(20002,(dw z)),(20003,(n4 B))]:List (Nat×Ob))
abbrev YK:=λl q w z B D=>([(10000,(.box 78 [(.ptr 10002 0)])),(10001,(.box 51 [(eU l)])),(10002,(.box 141 [(eW q),(er w),(cU z),(.row 10003),(c4 B)])),(10003,(xT D))]:List (Nat×Ob))
abbrev tl3:=λl q w z B=>([(10000,(.box 78 [(.ptr 10001 0)])),(10001,(.box 141 [(eW l),(er q),(cU w),(.row 10002),(c4 z)])),(10002,(xT B))]:List (Nat×Ob))
abbrev tl4:=λl q w z B D F=>([(10000,(.box 294 [(.ptr 10004 0)])),(10001,(.box 51 [(.row 20005)])),(10002,(.box 30 [(.row 20006)])),(10003,(.box 311 [(.cl 264 [.p 10000, .p 10001, .p 10002, .p 10003])])),(10004,(.box 297 [(eW l),(er q),(.row 20007),(.row 20008),(.row 20009)])),(20005,(dw w)),(20006,(dR z)),(20007,(dw B)),(20008,(dw D)),(20009,(n4 F))]:List (Nat×Ob))
abbrev tl5:=λl q w z=>([(10000,(.box 94 [(eW l),(er q),(.row 20001),(.row 20002)])),(20001,(dw w)),(20002,(dw z))]:List (Nat×Ob))
abbrev tl6:=λl q w z B D=>([(10000,(.box 294 [(.ptr 10002 0)])),(10001,(.box 310 [(.row 20003)])),(10002,(.box 297 [(eW l),(er q),(.row 20004),(.row 20005),(.row 20006)])),(20003,(ki w)),(20004,(dw z)),(20005,(dw B)),(20006,(n4 D))]:List (Nat×Ob))
abbrev tl7:=λl q w=>([(3,(UW l)),(6,(cN q)),(8,(.box 30 [(.row 5128)])),(5128,(dR w))]:List (Nat×Ob))
abbrev tl8:=λl q w=>([(3,(cN l)),(4,(cN q)),(5,(.box 30 [(.row 5080)])),(5080,(dR w))]:List (Nat×Ob))
abbrev tl9:=λl q w=>([(8,(cN l)),(9,(.box 30 [(.row 5144)])),(5144,(.rn 71 2 1 68 2 (List.map (ko Node.enc 1) q) (qh cz.enc w)))]:List (Nat×Ob))
abbrev aec:=λl q=>([(10000,(gm l)),(20001,(pO q))]:List (Nat×Ob))
abbrev tl11:=λl q w z B D F G I=>([(2,(cr l)),(3,(cN q)),(4,(cN w)),(14,(.box 94 [(eW z),(er B),(.row 5210),(.row 5211)])),(5208,(x8 D)),(5209,(qL F)),(5210,(dw G)),(5211,(dw I))]:List (Nat×Ob))
abbrev tl12:=λl q w z B D F G I=>([(6,(CO l)),(8,(cN q)),(10,(.box 76 [(uo w),(c4 z),(.row 5498)])),(5161,(dR B)),(5162,(Gt D)),(5497,(dR F)),(5498,(Gt G)),(10000,(gm I))]:List (Nat×Ob))
abbrev tl13:=λl q w z=>([(2,(cr l)),(3,(cN q)),(4,(cN w)),(6,(dw z))]:List (Nat×Ob))
def jb {T:Type} {E:T->Out} [fq E] {raw:Option Out} {t:Option T} [i:Im E t raw] {f:Nat} {args:List SV} {cG:List (Nat×Ob)} (l:aaL P yl H gR f args cG=raw:=by kernel_rfl) (q:gR f args cG=none:=by rfl):Lt (dec E (run P H gR f args cG)) t:=
 λw=>rA w i.p l λh=>sI (C:=yl) q h
def jh {T:Type} {E:T->Out} [fq E] {raw:Option Out} {t:Option T} [i:Im E t raw] {f key:Nat} {names:List Nat} {l:List (Nat×SV)} {q:List (Nat×Ob)} (w:WG P yl H gR f key names l q=raw:=by kernel_rfl):Lt (dec E (AA P yl H gR f key names l q)) t:=
 λz=>rA z i.p w λh=>kX h
