/- The types and codecs of the program, by program (decomp8.py). -/
import Derived.Test.YtacapiamkgkkjaaGreatDoorProg
import Derived.Test.YtacapiamkgkkjaaGreatDoorAmP
import Derived.Test.YtacapiamkgkkjaaGreatDoorAmI
import Derived.KernelRfl
set_option linter.all false
set_option maxRecDepth 100000
namespace Go.Proofs.YtacapiamkgkkjaaGreatDoor.cl
open Go Go.AM
noncomputable abbrev P:Program:=Tryz.prog
theorem YO {l q:Type} {f:l->q} (h:∀a b,f a=f b->a=b:=by
 intro a b h
 (iterate 6 (try injections))<;>first
 |assumption
 |exact map_inj fB.inj _ _ ‹_›
 |(cases a;cases b;congr<;>first|assumption|exact map_inj fB.inj _ _ ‹_› |exact wq ‹_› ‹_›)):fB f:=⟨h⟩
theorem mkG {l q:Type} {f:l->q} (h:∀a b,f a=f b->a=b:=by
 intro a b h
 (iterate 6 (try injections))
 (repeat' apply qq)<;>first
 |assumption
 |exact map_inj fB.inj _ _ ‹_›
 |exact wq ‹_› ‹_›):fB f:=⟨h⟩
theorem mkK {K:vV} [DecidableEq K.T] (h:∀a b,xG (K.enc a) (K.enc b)=some (decide (a=b)):=by
 intro a b;simp only[xG,gj]
 first|rfl|(congr 1;first|rfl|(rw[ia];simp))):IZ K:=⟨λa b=>⟨inferInstance,h a b⟩⟩
def yM (l:List UInt8):List (List UInt8)->List UInt8
 |[]=>[]
 |[x]=>x
 |x::xs=>x++l++yM l xs
abbrev EntW:=List UInt8×Nat
def EntW.enc (p:EntW):List AV:=[.str p.1, .dK 1 (bif Nat.beq p.2 0 then[] else[[.int .u64 (p.2:Int)]])]
def strs:List (List AV)->Option (List (List UInt8))
 |[]=>some []
 |[.str s]::l=>(strs l).map (s:: ·)
 |_=>none
def Bv:List (List AV)->Option (List (Int×Int))
 |[]=>some []
 |[.int .i64 f, .int .i64 t]::l=>(Bv l).map ((f,t):: ·)
 |_=>none
def SR (p:Int×Int):List AV:=[.int .i64 p.1, .int .i64 p.2]
def WG (p q:Int×Int):Bool:=decide (p.1<q.1)
def Bu:List (Int×Int)->Bool
 |[]=>true
 |x::l=>l.all (λy=>WG x y||WG y x)&&Bu l
def Ks (a b:List UInt8):Int:=bif Op.bytesLess a b then-1 else bif a==b then 0 else 1
def aa5:List AV:=[.str [], .int .i64 0, .str [], .dK 1 [], .dK 4 [], .dK 4 []]
abbrev V3:vV:=⟨Int,AV.int .i64⟩
instance:fB V3.enc:=YO
instance:IZ V3:=mkK
abbrev V4:vV:=⟨Bool,AV.bool⟩
instance:fB V4.enc:=YO
instance:IZ V4:=mkK
abbrev V9:vV:=⟨List UInt8,AV.str⟩
instance:fB V9.enc:=YO
instance:IZ V9:=mkK
structure er where
 bP:List UInt8
 Value:List UInt8
 deriving Inhabited
def er.enc (x:er):List AV:=[.str x.bP, .str x.Value]
instance:fB er.enc:=YO
structure aB where
 Name:List UInt8
 ew:List (List UInt8)
 bG:List er
 deriving Inhabited
def aB.enc (x:aB):List AV:=[.str x.Name, .dK 1 (List.map jL x.ew), .dK 2 (List.map er.enc x.bG)]
instance:fB aB.enc:=YO
inductive bQ where
 |mk (Op:Int) (Name:List UInt8) (Path:List (List UInt8)) (Kids:List bQ)
def bQ.Op:bQ->Int
 | .mk x _ _ _=>x
def bQ.Name:bQ->List UInt8
 | .mk _ x _ _=>x
def bQ.Path:bQ->List (List UInt8)
 | .mk _ _ x _=>x
def bQ.Kids:bQ->List bQ
 | .mk _ _ _ x=>x
mutual
def bQ.iw:bQ->List AV
 | .mk a b c d=>[.int .i64 a, .str b, .dK 1 (List.map jL c), .dK 4 (bQ.E3 d)]
def bQ.E3:List bQ->List (List AV)
 |[]=>[]
 |x::l=>bQ.iw x::bQ.E3 l
end
def bQ.enc (x:bQ):List AV:=[.int .i64 x.Op, .str x.Name, .dK 1 (List.map jL x.Path), .dK 4 (List.map bQ.iw x.Kids)]
instance:Inhabited bQ:=⟨.mk 0 [] [] []⟩
mutual
theorem bQ.injX:∀(a b:bQ),bQ.iw a=bQ.iw b->a=b
 | .mk a0 a1 a2 a3, .mk b0 b1 b2 b3,h=>by simp only[bQ.iw,c9,AV.int.injEq,AV.str.injEq,AV.bool.injEq,AV.dK.injEq,eS,eN] at h;obtain⟨h0,h1,h2,h3⟩:=h;replace h3:=bQ.injXs _ _ h3;replace h2:=map_inj fB.inj _ _ h2;subst h0 h1 h2 h3;rfl
theorem bQ.injXs:∀(a b:List bQ),bQ.E3 a=bQ.E3 b->a=b
 |[],[],_=>rfl
 |[],_::_,h=>by simp[bQ.E3] at h
 |_::_,[],h=>by simp[bQ.E3] at h
 |x::l,y::m,h=>by simp only[bQ.E3,c9] at h;rw[bQ.injX x y h.1,bQ.injXs l m h.2]
end
def bQ.SU (l:List bQ):bQ.E3 l=l.map bQ.iw:=by induction l with
 |nil=>rfl
 |cons x l q=>simp[bQ.E3,q]
def bQ.lI:bQ.iw=bQ.enc:=by funext x;cases x;simp only[bQ.iw,bQ.enc,bQ.SU];rfl
instance:fB bQ.iw:=⟨bQ.injX⟩
instance:fB bQ.enc:=⟨λa b h=>bQ.injX a b (by rw[bQ.lI];exact h)⟩
structure Def where
 Name:List UInt8
 fR:bQ
 c8:List bQ
 deriving Inhabited
def Def.enc (x:Def):List AV:=[.str x.Name, .int .i64 x.fR.Op, .str x.fR.Name, .dK 1 (List.map jL x.fR.Path), .dK 4 (List.map bQ.iw x.fR.Kids), .dK 4 (List.map bQ.iw x.c8)]
def Def.inj:∀(a b:Def),Def.enc a=Def.enc b->a=b:=by intro a b h;obtain⟨O,L,F⟩:=a;obtain⟨G,q,w,l⟩:=L;obtain⟨Q,N,I⟩:=b;obtain⟨K,B,D,z⟩:=N;simp only[Def.enc,c9,AV.int.injEq,AV.str.injEq,AV.bool.injEq,AV.dK.injEq,AV.mp.injEq,eS,eN] at h;obtain⟨V,h1,h2,R,S,U⟩:=h;replace R:=map_inj fB.inj _ _ R;replace S:=map_inj fB.inj _ _ S;replace U:=map_inj fB.inj _ _ U;change O=Q at V;change G=K at h1;change q=B at h2;change w=D at R;change l=z at S;change F=I at U;subst V h1 h2 R S U;rfl
instance:fB Def.enc:=⟨Def.inj⟩
structure cD where
 bP:Int
 To:Int
 deriving Inhabited
def cD.enc (x:cD):List AV:=[.int .i64 x.bP, .int .i64 x.To]
instance:fB cD.enc:=YO
structure Node where
 eF:Int
 cn:List cD
 deriving Inhabited
def Node.enc (x:Node):List AV:=[.int .i64 x.eF, .dK 2 (List.map cD.enc x.cn)]
instance:fB Node.enc:=YO
structure FSt where
 az:List Node
 deriving Inhabited
def FSt.enc (x:FSt):List AV:=[.dK 2 (List.map Node.enc x.az)]
instance:fB FSt.enc:=YO
structure Case where
 Decls:List aB
 Defs:List Def
 X:bQ
 Y:bQ
 F:FSt
 deriving Inhabited
def Case.enc (x:Case):List AV:=[.dK 3 (List.map aB.enc x.Decls), .dK 6 (List.map Def.enc x.Defs), .int .i64 x.X.Op, .str x.X.Name, .dK 1 (List.map jL x.X.Path), .dK 4 (List.map bQ.iw x.X.Kids), .int .i64 x.Y.Op, .str x.Y.Name, .dK 1 (List.map jL x.Y.Path), .dK 4 (List.map bQ.iw x.Y.Kids), .dK 2 (List.map Node.enc x.F.az)]
def Case.inj:∀(a b:Case),Case.enc a=Case.enc b->a=b:=by intro a b h;obtain⟨w,V,aX,aY,aF⟩:=a;obtain⟨aXOp,B,D,z⟩:=aX;obtain⟨aYOp,G,I,F⟩:=aY;obtain⟨l⟩:=aF;obtain⟨K,bDefs,bX,bY,bF⟩:=b;obtain⟨bXOp,N,O,L⟩:=bX;obtain⟨bYOp,R,S,Q⟩:=bY;obtain⟨q⟩:=bF;simp only[Case.enc,c9,AV.int.injEq,AV.str.injEq,AV.bool.injEq,AV.dK.injEq,AV.mp.injEq,eS,eN] at h;obtain⟨h0,h1,h2,h3,h4,h5,h6,h7,h8,h9,U⟩:=h;replace h0:=map_inj fB.inj _ _ h0;replace h1:=map_inj fB.inj _ _ h1;replace h4:=map_inj fB.inj _ _ h4;replace h5:=map_inj fB.inj _ _ h5;replace h8:=map_inj fB.inj _ _ h8;replace h9:=map_inj fB.inj _ _ h9;replace U:=map_inj fB.inj _ _ U;change w=K at h0;change V=bDefs at h1;change aXOp=bXOp at h2;change B=N at h3;change D=O at h4;change z=L at h5;change aYOp=bYOp at h6;change G=R at h7;change I=S at h8;change F=Q at h9;change l=q at U;subst h0 h1 h2 h3 h4 h5 h6 h7 h8 h9 U;rfl
instance:fB Case.enc:=⟨Case.inj⟩
structure gi where
 bP:Int
 Value:Int
 deriving Inhabited
def gi.enc (x:gi):List AV:=[.int .i64 x.bP, .int .i64 x.Value]
instance:fB gi.enc:=YO
structure fL where
 Name:List UInt8
 Code:List Int
 ew:List Int
 bG:List gi
 deriving Inhabited
def fL.enc (x:fL):List AV:=[.str x.Name, .dK 1 (List.map (eC .u64) x.Code), .dK 1 (List.map (eC .i64) x.ew), .dK 2 (List.map gi.enc x.bG)]
instance:fB fL.enc:=YO
structure dg where
 Name:List UInt8
 Intro:Int
 deriving Inhabited
def dg.enc (x:dg):List AV:=[.str x.Name, .int .i64 x.Intro]
instance:fB dg.enc:=YO
structure aV where
 Types:List fL
 bG:List dg
 deriving Inhabited
def aV.enc (x:aV):List AV:=[.dK 4 (List.map fL.enc x.Types), .dK 2 (List.map dg.enc x.bG)]
def aV.inj:∀(a b:aV),aV.enc a=aV.enc b->a=b:=by intro a b h;obtain⟨q,l⟩:=a;obtain⟨z,w⟩:=b;simp only[aV.enc,c9,AV.int.injEq,AV.str.injEq,AV.bool.injEq,AV.dK.injEq,AV.mp.injEq,eS,eN] at h;obtain⟨B,D⟩:=h;replace B:=map_inj fB.inj _ _ B;replace D:=map_inj fB.inj _ _ D;change q=z at B;change l=w at D;subst B D;rfl
instance:fB aV.enc:=⟨aV.inj⟩
structure Template where
 Name:List UInt8
 fR:FSt
 c8:List FSt
 deriving Inhabited
def Template.enc (x:Template):List AV:=[.str x.Name, .dK 2 (List.map Node.enc x.fR.az), .dK 1 (List.map FSt.enc x.c8)]
def Template.inj:∀(a b:Template),Template.enc a=Template.enc b->a=b:=by intro a b h;obtain⟨F,B,w⟩:=a;obtain⟨l⟩:=B;obtain⟨G,D,z⟩:=b;obtain⟨q⟩:=D;simp only[Template.enc,c9,AV.int.injEq,AV.str.injEq,AV.bool.injEq,AV.dK.injEq,AV.mp.injEq,eS,eN] at h;obtain⟨L,I,K⟩:=h;replace I:=map_inj fB.inj _ _ I;replace K:=map_inj fB.inj _ _ K;change F=G at L;change l=q at I;change w=z at K;subst L I K;rfl
instance:fB Template.enc:=⟨Template.inj⟩
structure tag where
 Name:List UInt8
 Path:List Int
 deriving Inhabited
def tag.enc (x:tag):List AV:=[.str x.Name, .dK 1 (List.map (eC .i64) x.Path)]
instance:fB tag.enc:=YO
structure fT where
 Name:List UInt8
 Code:List Int
 deriving Inhabited
def fT.enc (x:fT):List AV:=[.str x.Name, .dK 1 (List.map (eC .u64) x.Code)]
instance:fB fT.enc:=YO
structure state where
 F:FSt
 OK:Bool
 Tags:List tag
 deriving Inhabited
def state.enc (x:state):List AV:=[.dK 2 (List.map Node.enc x.F.az), .bool x.OK, .dK 2 (List.map tag.enc x.Tags)]
def state.inj:∀(a b:state),state.enc a=state.enc b->a=b:=by intro a b h;obtain⟨K,F,w⟩:=a;obtain⟨l⟩:=K;obtain⟨L,G,z⟩:=b;obtain⟨q⟩:=L;simp only[state.enc,c9,AV.int.injEq,AV.str.injEq,AV.bool.injEq,AV.dK.injEq,AV.mp.injEq,eS,eN] at h;obtain⟨B,I,D⟩:=h;replace B:=map_inj fB.inj _ _ B;replace D:=map_inj fB.inj _ _ D;change l=q at B;change F=G at I;change w=z at D;subst B I D;rfl
instance:fB state.enc:=⟨state.inj⟩
structure world where
 h:aV
 list:Int
 cons:Int
 null:Int
 dlist:Int
 first:Int
 rest:Int
 head:Int
 last:Int
 deriving Inhabited
def world.enc (x:world):List AV:=[.dK 4 (List.map fL.enc x.h.Types), .dK 2 (List.map dg.enc x.h.bG), .int .i64 x.list, .int .i64 x.cons, .int .i64 x.null, .int .i64 x.dlist, .int .i64 x.first, .int .i64 x.rest, .int .i64 x.head, .int .i64 x.last]
def world.inj:∀(a b:world),world.enc a=world.enc b->a=b:=by intro a b h;obtain⟨ah,N,I,O,B,D,Q,K,L⟩:=a;obtain⟨q,l⟩:=ah;obtain⟨bh,V,R,bnull,F,G,brest,S,U⟩:=b;obtain⟨z,w⟩:=bh;simp only[world.enc,c9,AV.int.injEq,AV.str.injEq,AV.bool.injEq,AV.dK.injEq,AV.mp.injEq,eS,eN] at h;obtain⟨h0,h1,h2,h3,h4,h5,h6,h7,h8,h9⟩:=h;replace h0:=map_inj fB.inj _ _ h0;replace h1:=map_inj fB.inj _ _ h1;change q=z at h0;change l=w at h1;change N=V at h2;change I=R at h3;change O=bnull at h4;change B=F at h5;change D=G at h6;change Q=brest at h7;change K=S at h8;change L=U at h9;subst h0 h1 h2 h3 h4 h5 h6 h7 h8 h9;rfl
instance:fB world.enc:=⟨world.inj⟩
structure dN where
 a0:Int
 a1:Int
 deriving Inhabited
def dN.enc (x:dN):List AV:=[.int .i64 x.a0, .int .i64 x.a1]
instance:fB dN.enc:=YO
abbrev C116:Gk:=⟨aB,aB.enc⟩
abbrev C62:Gk:=⟨Def,Def.enc⟩
abbrev C9:Gk:=⟨List UInt8,jL⟩
abbrev C27:Gk:=⟨bQ,bQ.enc⟩
abbrev C60:Gk:=⟨Node,Node.enc⟩
abbrev C111:Gk:=⟨fL,fL.enc⟩
abbrev C165:Gk:=⟨dg,dg.enc⟩
abbrev C66:Gk:=⟨Template,Template.enc⟩
abbrev C57:Gk:=⟨cD,cD.enc⟩
abbrev C30:Gk:=⟨FSt,FSt.enc⟩
abbrev C190:Gk:=⟨tag,tag.enc⟩
abbrev C109:Gk:=⟨List (gi),(nC 2 gi.enc)⟩
abbrev C106:Gk:=⟨fT,fT.enc⟩
abbrev C244:Gk:=⟨Int,(eC .u64)⟩
abbrev C3:Gk:=⟨Int,(eC .i64)⟩
abbrev C154:Gk:=⟨gi,gi.enc⟩
abbrev C167:Gk:=⟨er,er.enc⟩
abbrev C104:Gk:=⟨List (Int),(nC 1 (eC .u64))⟩
abbrev C107:Gk:=⟨List (Int),(nC 1 (eC .i64))⟩
abbrev C58:Gk:=⟨List (cD),(nC 2 cD.enc)⟩
abbrev C4:Gk:=⟨Bool,XQ⟩
abbrev C275:Gk:=⟨dN,dN.enc⟩
abbrev C5:Gk:=⟨Int,(eC .u8)⟩
abbrev Bh:vV:=⟨List Int,pL 1 (eC .i64)⟩
abbrev Q0:=pA aV.enc
abbrev Q1:=pP (pL 3 Template.enc) (AV.bool)
abbrev Q2:=AV.bool
abbrev Q3:=pP (pA FSt.enc) (AV.int .i64)
abbrev Q4:=pP (pL 3 Template.enc) (AV.int .i64)
abbrev Q5:=pP (pA aV.enc) (AV.int .i64)
abbrev Q6:=pL 3 aB.enc
abbrev Q7:=pP (pA FSt.enc) (AV.bool)
abbrev Q8:=AV.int .i64
abbrev Q9:=pP (pL 6 Def.enc) (AV.int .i64)
abbrev Q10:=pP (pL 1 (nC 2 gi.enc)) (AV.int .i64)
abbrev Q11:=pP (pL 2 fT.enc) (AV.int .i64)
abbrev Q12:=pA aB.enc
abbrev Q13:=pL 1 (eC .i64)
abbrev Q14:=pW 62 6 Def.enc
abbrev Q15:=pU
abbrev Q16:=pT (pA FSt.enc) (pL 1 FSt.enc) (AV.int .i64)
abbrev Q17:=pP (AV.int .i64) (AV.bool)
abbrev Q18:=pW 66 3 Template.enc
abbrev Q19:=pP (pA Template.enc) (AV.int .i64)
abbrev Q20:=pL 1 jL
abbrev Q21:=pP (pL 2 dg.enc) (AV.int .i64)
abbrev Q22:=pP (pL 1 (eC .i64)) (AV.bool)
abbrev Q23:=pL 1 (eC .u64)
abbrev Q24:=pL 1 (nC 1 (eC .u64))
abbrev Q25:=pW 3 1 (eC .i64)
abbrev Q26:=pA FSt.enc
abbrev Q27:=pP (AV.str) (AV.bool)
abbrev Q28:=pP (pL 1 (eC .u64)) (AV.bool)
abbrev Q29:=AV.str
abbrev Q30:=pP (pA world.enc) (AV.int .i64)
abbrev Q31:=pW 60 2 Node.enc
abbrev Q32:=pL 2 Node.enc
abbrev Q33:=AV.self
abbrev Q34:=pP (pL 1 (eC .u64)) (AV.int .i64)
abbrev Q35:=AV.int .u64
abbrev Q36:=pF 305 cD.enc
abbrev Q37:=pW 57 2 cD.enc
abbrev R28.T:Type:=List Int
def elems:List (Nat×Gk):=[(116,C116),(62,C62),(9,C9),(27,C27),(60,C60),(111,C111),(165,C165),(66,C66),(57,C57),(30,C30),(190,C190),(109,C109),(106,C106),(244,C244),(3,C3),(154,C154),(167,C167),(104,C104),(107,C107),(58,C58),(4,C4),(275,C275),(5,C5)]
def vals:List (Nat×vV):=[(3,V3),(4,V4),(9,V9),(107,Bh)]
def ress:List (Nat×vV):=[(3,⟨_,Q2⟩),(4,⟨_,Q2⟩),(5,⟨_,Q0⟩),(6,⟨_,Q1⟩),(7,⟨_,Q2⟩),(8,⟨_,Q3⟩),(9,⟨_,Q3⟩),(10,⟨_,Q2⟩),(11,⟨_,Q2⟩),(12,⟨_,Q4⟩),(13,⟨_,Q4⟩),(14,⟨_,Q2⟩),(15,⟨_,Q5⟩),(16,⟨_,Q6⟩),(17,⟨_,Q2⟩),(21,⟨_,Q3⟩),(22,⟨_,Q2⟩),(24,⟨_,Q7⟩),(25,⟨_,Q8⟩),(26,⟨_,Q2⟩),(27,⟨_,Q9⟩),(28,⟨_,Q16⟩),(29,⟨_,Q17⟩),(31,⟨_,Q18⟩),(32,⟨_,Q8⟩),(33,⟨_,Q19⟩),(34,⟨_,Q8⟩),(35,⟨_,Q8⟩),(36,⟨_,Q2⟩),(37,⟨_,Q10⟩),(38,⟨_,Q11⟩),(39,⟨_,Q13⟩),(40,⟨_,Q21⟩),(41,⟨_,Q12⟩),(42,⟨_,Q2⟩),(43,⟨_,Q8⟩),(44,⟨_,Q2⟩),(46,⟨_,Q2⟩),(47,⟨_,Q2⟩),(48,⟨_,Q7⟩),(49,⟨_,Q8⟩),(50,⟨_,Q2⟩),(51,⟨_,Q8⟩),(56,⟨_,Q13⟩),(58,⟨_,Q2⟩),(59,⟨_,Q2⟩),(60,⟨_,Q13⟩),(61,⟨_,Q2⟩),(62,⟨_,Q14⟩),(63,⟨_,Q15⟩),(64,⟨_,Q8⟩),(65,⟨_,Q8⟩),(66,⟨_,Q2⟩),(67,⟨_,Q20⟩),(68,⟨_,Q2⟩),(69,⟨_,Q8⟩),(70,⟨_,Q2⟩),(71,⟨_,Q2⟩),(72,⟨_,Q33⟩),(74,⟨_,Q17⟩),(75,⟨_,Q8⟩),(78,⟨_,Q8⟩),(79,⟨_,Q20⟩),(81,⟨_,Q2⟩),(82,⟨_,Q8⟩),(83,⟨_,Q20⟩),(84,⟨_,Q28⟩),(85,⟨_,Q8⟩),(86,⟨_,Q8⟩),(87,⟨_,Q20⟩),(88,⟨_,Q23⟩),(89,⟨_,Q24⟩),(90,⟨_,Q29⟩),(91,⟨_,Q2⟩),(92,⟨_,Q2⟩),(93,⟨_,Q27⟩),(94,⟨_,Q8⟩),(95,⟨_,Q8⟩),(96,⟨_,Q8⟩),(99,⟨_,Q8⟩),(100,⟨_,Q3⟩),(101,⟨_,Q8⟩),(102,⟨_,Q2⟩),(103,⟨_,Q2⟩),(104,⟨_,Q2⟩),(105,⟨_,Q2⟩),(106,⟨_,Q2⟩),(107,⟨_,Q2⟩),(108,⟨_,Q13⟩),(109,⟨_,Q22⟩),(110,⟨_,Q2⟩),(111,⟨_,Q31⟩),(112,⟨_,Q2⟩),(113,⟨_,Q7⟩),(114,⟨_,Q7⟩),(115,⟨_,Q17⟩),(116,⟨_,Q17⟩),(117,⟨_,Q2⟩),(118,⟨_,Q15⟩),(120,⟨_,Q8⟩),(122,⟨_,Q2⟩),(124,⟨_,Q2⟩),(125,⟨_,Q8⟩),(126,⟨_,Q20⟩),(127,⟨_,Q27⟩),(128,⟨_,Q23⟩),(129,⟨_,Q23⟩),(130,⟨_,Q2⟩),(131,⟨_,Q8⟩),(132,⟨_,Q8⟩),(133,⟨_,Q8⟩),(134,⟨_,Q20⟩),(135,⟨_,Q20⟩),(136,⟨_,Q2⟩),(137,⟨_,Q34⟩),(138,⟨_,Q2⟩),(139,⟨_,Q2⟩),(140,⟨_,Q2⟩),(141,⟨_,Q20⟩),(142,⟨_,Q8⟩),(143,⟨_,Q2⟩),(144,⟨_,Q2⟩),(147,⟨_,Q26⟩),(148,⟨_,Q26⟩),(152,⟨_,Q7⟩),(153,⟨_,Q8⟩),(154,⟨_,Q2⟩),(155,⟨_,Q3⟩),(156,⟨_,Q8⟩),(157,⟨_,Q8⟩),(158,⟨_,Q7⟩),(159,⟨_,Q25⟩),(160,⟨_,Q2⟩),(161,⟨_,Q17⟩),(162,⟨_,Q7⟩),(163,⟨_,Q26⟩),(164,⟨_,Q26⟩),(165,⟨_,Q17⟩),(166,⟨_,Q2⟩),(167,⟨_,Q2⟩),(168,⟨_,Q15⟩),(169,⟨_,Q15⟩),(171,⟨_,Q15⟩),(172,⟨_,Q15⟩),(173,⟨_,Q33⟩),(174,⟨_,Q8⟩),(176,⟨_,Q2⟩),(177,⟨_,Q35⟩),(178,⟨_,Q8⟩),(179,⟨_,Q2⟩),(180,⟨_,Q20⟩),(181,⟨_,Q20⟩),(182,⟨_,Q13⟩),(183,⟨_,Q23⟩),(184,⟨_,Q2⟩),(185,⟨_,Q2⟩),(186,⟨_,Q7⟩),(191,⟨_,Q15⟩),(192,⟨_,Q2⟩),(193,⟨_,Q26⟩),(194,⟨_,Q30⟩),(195,⟨_,Q2⟩),(196,⟨_,Q3⟩),(197,⟨_,Q3⟩),(198,⟨_,Q17⟩),(199,⟨_,Q32⟩),(200,⟨_,Q13⟩),(201,⟨_,Q13⟩),(202,⟨_,Q25⟩),(203,⟨_,Q22⟩),(204,⟨_,Q26⟩),(206,⟨_,Q2⟩),(207,⟨_,Q2⟩),(208,⟨_,Q15⟩),(217,⟨_,Q2⟩),(218,⟨_,Q8⟩),(219,⟨_,Q8⟩),(220,⟨_,Q2⟩),(222,⟨_,Q8⟩),(223,⟨_,Q26⟩),(224,⟨_,Q23⟩),(225,⟨_,Q2⟩),(226,⟨_,Q2⟩),(227,⟨_,Q17⟩),(228,⟨_,Q17⟩),(229,⟨_,Q26⟩),(230,⟨_,Q15⟩),(261,⟨_,Q2⟩),(262,⟨_,Q15⟩),(263,⟨_,Q37⟩),(264,⟨_,Q36⟩),(266,⟨_,Q23⟩),(267,⟨_,Q15⟩),(268,⟨_,Q37⟩),(302,⟨_,Q35⟩)]
abbrev MJ.T:Type:=(List fL)×(List dg)×(List Template)×(List Node)×(List ((List UInt8)×(List Int)))
def MJ:MJ.T->Out:=(λx:(List fL)×(List dg)×(List Template)×(List Node)×(List ((List UInt8)×(List Int)))=>((.gy [.gy [.self 0, .lY,(.self 25000)]],[(25000,(.box 84 [(.pv (.dK 4 (List.map fL.enc x.1))),(.pv (.dK 2 (List.map dg.enc x.2.1))),(.pv (.dK 3 (List.map Template.enc x.2.2.1))),(.row 25001),(.pv (.dK 2 (List.map Node.enc x.2.2.2.1)))])),(25001,(.mp 9 107 (fu V9 Bh x.2.2.2.2).1 (fu V9 Bh x.2.2.2.2).2))]):Out))
instance:fB MJ:=⟨λa b h=>by
 obtain⟨F,G,I,K,L⟩:=a;obtain⟨N,O,Q,R,S⟩:=b;simp only[MJ,ck,c9,AV.gy.injEq,AV.agg.injEq,AV.dK.injEq,AV.int.injEq,AV.bool.injEq,AV.str.injEq,Ob.row.injEq,Ob.rn.injEq,Ob.box.injEq,Ob.mp.injEq,SV.pv.injEq,eN,eS,vj] at h;obtain⟨l,q,w,z,B,D⟩:=h
 rw[map_inj fB.inj _ _ l,map_inj fB.inj _ _ q,map_inj fB.inj _ _ w,map_inj fB.inj _ _ z,wq (K:=V9) (V:=Bh) B D]⟩
abbrev Em.T:Type:=Node
def Em:Em.T->Out:=(λx:Node=>((.gy [.gy [.self 0, .lY,(.agg [(.self 25000)])]],[(25000,(.rn 60 2 1 57 2 (List.map (kX Node.enc 1) [x]) (qE cD.enc [some x.cn])))]):Out))
instance:fB Em:=⟨λa b h=>by
 simp only[Em,ck,c9,AV.gy.injEq,AV.agg.injEq,AV.dK.injEq,AV.int.injEq,AV.bool.injEq,AV.str.injEq,Ob.row.injEq,Ob.rn.injEq,Ob.box.injEq,Ob.mp.injEq,SV.pv.injEq,eN,eS,vj] at h;obtain⟨q,l⟩:=h
 exact(List.cons.inj (Xg (sub:=λx=>x.cn) (x:=[_]) (y:=[_]) (λa b l w=>by cases a;cases b;simp_all[kX,Node.enc]) q l)).1⟩
abbrev Eo.T:Type:=(List Node)×Bool×(List tag)
def Eo:Eo.T->Out:=(λx:(List Node)×Bool×(List tag)=>((.gy [.gy [.self 0, .lY,(.agg [(.dK 2 (List.map Node.enc x.1)),(.bool x.2.1),(.self 20000)])]],[(20000,(.row 190 2 (List.map tag.enc x.2.2)))]):Out))
instance:fB Eo:=mkG
abbrev CV.T:Type:=(List Node)×Bool×(List tag)
def CV:CV.T->Out:=(λx:(List Node)×Bool×(List tag)=>((.gy [.gy [.self 0, .lY,(.agg [(.dK 2 (List.map Node.enc x.1)),(.bool x.2.1),(.self 20000)])]],[(20000,(.row 190 2 (List.map tag.enc x.2.2)))]):Out))
instance:fB CV:=mkG
abbrev IX.T:Type:=(List Node)×Bool×(List tag)
def IX:IX.T->Out:=(λx:(List Node)×Bool×(List tag)=>((.gy [.gy [.self 0, .lY,(.agg [(.dK 2 (List.map Node.enc x.1)),(.bool x.2.1),(.self 20000)])]],[(20000,(.row 190 2 (List.map tag.enc x.2.2)))]):Out))
instance:fB IX:=mkG
abbrev OF.T:Type:=(List Node)×Bool×(List tag)
def OF:OF.T->Out:=(λx:(List Node)×Bool×(List tag)=>((.gy [.gy [.self 0, .lY,(.agg [(.dK 2 (List.map Node.enc x.1)),(.bool x.2.1),(.self 20000)])]],[(20000,(.row 190 2 (List.map tag.enc x.2.2)))]):Out))
instance:fB OF:=mkG
abbrev MK.T:Type:=(List Node)×Bool×(List tag)
def MK:MK.T->Out:=(λx:(List Node)×Bool×(List tag)=>((.gy [.gy [.self 0, .lY,(.agg [(.dK 2 (List.map Node.enc x.1)),(.bool x.2.1),(.self 20000)])]],[(20000,(.row 190 2 (List.map tag.enc x.2.2)))]):Out))
instance:fB MK:=mkG
abbrev OG.T:Type:=(List Node)×Bool×(List tag)
def OG:OG.T->Out:=(λx:(List Node)×Bool×(List tag)=>((.gy [.gy [.self 0, .lY,(.agg [(.dK 2 (List.map Node.enc x.1)),(.bool x.2.1),(.self 20000)])]],[(20000,(.row 190 2 (List.map tag.enc x.2.2)))]):Out))
instance:fB OG:=mkG
abbrev R8.T:Type:=(List Template)
def R8:R8.T->Out:=(λx:(List Template)=>((.gy [.gy [.self 0, .lY,(.self 20000)]],[(20000,(.row 66 3 (List.map Template.enc x)))]):Out))
instance:fB R8:=mkG
abbrev ML.T:Type:=(List (List UInt8))
def ML:ML.T->Out:=(λx:(List (List UInt8))=>((.gy [.gy [.self 0, .lY,(.self 20000)]],[(20000,(.row 9 1 (List.map jL x)))]):Out))
instance:fB ML:=mkG
abbrev ug.T:Type:=(List Node)×Bool×(List Template)×(List tag)
def ug:ug.T->Out:=(λx:(List Node)×Bool×(List Template)×(List tag)=>((.gy [.gy [.self 0, .lY,(.agg [(.dK 2 (List.map Node.enc x.1)),(.bool x.2.1),(.self 20001)])]],[(10000,(.row 66 3 (List.map Template.enc x.2.2.1))),(20001,(.row 190 2 (List.map tag.enc x.2.2.2)))]):Out))
instance:fB ug:=mkG
abbrev Ep.T:Type:=(List (List UInt8))
def Ep:Ep.T->Out:=(λx:(List (List UInt8))=>((.gy [.gy [.self 0, .lY,(.self 20000)]],[(20000,(.row 9 1 (List.map jL x)))]):Out))
instance:fB Ep:=mkG
abbrev IY.T:Type:=Int×(List Node)
def IY:IY.T->Out:=(λx:Int×(List Node)=>((.gy [.gy [.self 0, .lY,(.gy [(.agg [(.self 25000)]),(.int .i64 x.1)])]],[(25000,(.rn 60 2 1 57 2 (List.map (kX Node.enc 1) x.2) (qE cD.enc (List.map (λx=>some x.cn) x.2))))]):Out))
instance:fB IY:=⟨λa b h=>by
 obtain⟨z,B⟩:=a;obtain⟨D,F⟩:=b;simp only[IY,ck,c9,AV.gy.injEq,AV.agg.injEq,AV.dK.injEq,AV.int.injEq,AV.bool.injEq,AV.str.injEq,Ob.row.injEq,Ob.rn.injEq,Ob.box.injEq,Ob.mp.injEq,SV.pv.injEq,eN,eS,vj] at h;obtain⟨w,l,q⟩:=h
 rw[w,Xg (λa b l q=>by cases a;cases b;simp_all[kX,Node.enc]) l q]⟩
abbrev DJ.T:Type:=(List (List UInt8))×(List (List UInt8))
def DJ:DJ.T->Out:=(λx:(List (List UInt8))×(List (List UInt8))=>((.gy [.gy [.self 0, .lY,(.gy [(.self 25000),(.self 25001)])]],[(25000,(.row 9 1 (List.map jL x.1))),(25001,(.row 9 1 (List.map jL x.2)))]):Out))
instance:fB DJ:=mkG
abbrev yy.T:Type:=(List Node)×Bool×(List Template)×(List tag)
def yy:yy.T->Out:=(λx:(List Node)×Bool×(List Template)×(List tag)=>((.gy [.gy [.self 0, .lY,(.agg [(.dK 2 (List.map Node.enc x.1)),(.bool x.2.1),(.self 20001)])]],[(10000,(.row 66 3 (List.map Template.enc x.2.2.1))),(20001,(.row 190 2 (List.map tag.enc x.2.2.2)))]):Out))
instance:fB yy:=mkG
abbrev R7.T:Type:=(List Node)
def R7:R7.T->Out:=(λx:(List Node)=>((.gy [.gy [.self 0, .lY,(.self 20000)]],[(20000,(.row 60 2 (List.map Node.enc x)))]):Out))
instance:fB R7:=mkG
abbrev Bc.T:Type:=(Template×Int)×(List Template)
def Bc:Bc.T->Out:=(λx:(Template×Int)×(List Template)=>((Q19 x.1,[(10000, .row 66 3 (List.map Template.enc x.2))]):Out))
instance:fB Bc:=⟨λa b h=>by
 obtain⟨w,z⟩:=a;obtain⟨B,D⟩:=b;simp only[Bc,ck,c9,Ob.row.injEq,Ob.mp.injEq,Ob.lp.injEq,Ob.box.injEq,eN,eS] at h;obtain⟨l,q⟩:=h
 rw[fB.inj _ _ l,map_inj fB.inj _ _ q]⟩
abbrev C1.T:Type:=(FSt×Int)×(List Template)
def C1:C1.T->Out:=(λx:(FSt×Int)×(List Template)=>((Q3 x.1,[(10000, .row 66 3 (List.map Template.enc x.2))]):Out))
instance:fB C1:=⟨λa b h=>by
 obtain⟨w,z⟩:=a;obtain⟨B,D⟩:=b;simp only[C1,ck,c9,Ob.row.injEq,Ob.mp.injEq,Ob.lp.injEq,Ob.box.injEq,eN,eS] at h;obtain⟨l,q⟩:=h
 rw[fB.inj _ _ l,map_inj fB.inj _ _ q]⟩
def outs:List (Nat×CodO):=[(3000000,⟨_,(EN Q3)⟩),(3004096,⟨MJ.T,MJ⟩),(3008192,⟨Em.T,Em⟩),(3012352,⟨Eo.T,Eo⟩),(3016384,⟨MJ.T,MJ⟩),(3020544,⟨CV.T,CV⟩),(3024640,⟨IX.T,IX⟩),(3028736,⟨OF.T,OF⟩),(3032832,⟨MK.T,MK⟩),(3036928,⟨CV.T,CV⟩),(3041024,⟨MK.T,MK⟩),(3045120,⟨Eo.T,Eo⟩),(3049216,⟨CV.T,CV⟩),(3053312,⟨MK.T,MK⟩),(3057408,⟨CV.T,CV⟩),(3061504,⟨OG.T,OG⟩),(3065600,⟨R8.T,R8⟩),(3069696,⟨Bc.T,Bc⟩),(3073728,⟨Em.T,Em⟩),(3077888,⟨IX.T,IX⟩),(3081984,⟨Eo.T,Eo⟩),(3086080,⟨Eo.T,Eo⟩),(3090176,⟨C1.T,C1⟩),(3094272,⟨OG.T,OG⟩),(3098304,⟨Em.T,Em⟩),(3102464,⟨IX.T,IX⟩),(3106560,⟨CV.T,CV⟩),(3110656,⟨Eo.T,Eo⟩),(3114752,⟨ML.T,ML⟩),(3012416,⟨ug.T,ug⟩),(3118848,⟨C1.T,C1⟩),(3122944,⟨Ep.T,Ep⟩),(3126976,⟨Em.T,Em⟩),(3131136,⟨IY.T,IY⟩),(3135232,⟨IY.T,IY⟩),(3139264,⟨DJ.T,DJ⟩),(3143424,⟨Ep.T,Ep⟩),(3032896,⟨yy.T,yy⟩),(3041088,⟨yy.T,yy⟩),(3045184,⟨ug.T,ug⟩),(3053376,⟨yy.T,yy⟩),(3147456,⟨DJ.T,DJ⟩),(3151616,⟨ML.T,ML⟩),(3155712,⟨Ep.T,Ep⟩),(3082048,⟨ug.T,ug⟩),(3086144,⟨ug.T,ug⟩),(3159808,⟨Ep.T,Ep⟩),(3163904,⟨R7.T,R7⟩),(3110720,⟨ug.T,ug⟩)]
def w6:mj:={ out:=H8 outs,elem:=H8 elems,val:=H8 vals,res:=H8 ress }
def dM:List Nat:=[10000,10001,10002,10003,10004,10005,10006,10007,10008,20000,20001,20002,20003,20004,20005,20006,20007,20008,20009,20010,20011]
abbrev fouN (n:Nat):List Nat:=[n,Nat.add n 1,Nat.add n 2,Nat.add n 3]
abbrev eV (n:Nat):List Nat:=[n,Nat.add n 1,Nat.add n 2,Nat.add n 3,Nat.add n 4,Nat.add n 5]
def hints:List (Nat×Hint):=[
 (3,{ owns:=[35],uP:=[(35,3000000,[])] }),
 (7,{ owns:=[112,129],use:=[112,129],uP:=[(112,0,[]),(129,0,[])] }),
 (8,{ owns:=[10],use:=[9],bx:=[5160],uP:=[(10,3004096,[])] }),
 (9,{ rows:=[20],owns:=[19,22],use:=[19],uP:=[(19,3008192,[]),(22,3012288,[])] }),
 (11,{ loops:=[(4,[0,3],[])] }),
 (12,{ loops:=[(7,[8,9,27,28,29],[5416,5417])],nq:=[8],ga:=[55],stay:=[55,63],owns:=[26,55,63],use:=[62],bx:=[5416],uP:=[(26,3016384,[]),(63,3065536,[0])] }),
 (13,{ loops:=[(5,[1,2,7],[2,7]),(11,[7,10],[7,10]),(14,[7,10,11,12],[7,10])],rows:=[7,10],owns:=[32],uP:=[(32,3069632,[])] }),
 (14,{ loops:=[(4,[0,1,5],[])] }),
 (15,{ loops:=[(7,[0,2,4,6,8,9],[2,8]++eV 5128)],rows:=[8],nq:=[4,6],nS:=[(12,eV 5128)] }),
 (18,{ owns:=[15],use:=[14],uP:=[(15,0,[])] }),
 (19,{ rows:=[5,6],own:=true,Qb:=[(4,[1])],nest:=[(5,1,57,2)] }),
 (20,{ rows:=[8],own:=true,Qb:=[(8,[0,1,2,4])] }),
 (21,{ rows:=[18],use:=[18],bx:=[10000] }),
 (22,{ loops:=[(12,[1,3,5,7],[3,5]),(17,[1,3,5,8],[3,5])] }),
 (23,{ loops:=[(11,[1,3,5,7,9,10,11,12],[5,7,9,10]++eV 10000++eV 20000),(18,[1,5,7,9,10,13,14],[5,7,9,10,72]++eV 10000++eV 20000)],rows:=[72],owns:=[29,43,51,68,100,109,117,129,145,149,160,169,177],use:=[26,34,48,62,95,106,108,116,123,128,138,148,157,159,168,172,176],own:=true,uP:=[(29,3020480,[]),(43,3024576,[]),(51,3028672,[]),(68,3081920,[]),(100,3086016,[]),(109,3032768,[]),(117,3036864,[]),(129,3040960,[]),(145,3045056,[]),(149,3049152,[]),(160,3053248,[]),(169,3057344,[]),(177,3061440,[])] }),
 (24,{ loops:=[(3,[2,3,4,6,7],[2,3,4,6,13]++eV 5208),(7,[2,3,4,6,8],[2,3,4,6,13]++eV 5208),(10,[2,3,4,6,9,10],[2,3,4,6,13]++eV 5208),(14,[2,3,4,6,9,10,11,12],[2,3,4,6,13]++eV 5208),(21,[3,4,6,13,14],[3,4,6,13]++eV 5208)],rows:=[6,13,32],nq:=[9],ga:=[55],nS:=[(24,eV 5208)] }),
 (25,{ loops:=[(4,[5,6,7],[])] }),
 (26,{ loops:=[(4,[1,3],[1])] }),
 (27,{ loops:=[(5,[4,5,18,19,20],[5,14,17]),(12,[4,5,32,33,34],[5,14,17]),(19,[4,10,11],[10,11,14,43])],rows:=[11],ga:=[15,40,47,48,65],stay:=[14,16,41,49,69],owns:=[14] }),
 (28,{ loops:=[(6,[0,3,4,7,9,30,31,32],[3,4,7,9]++dM),(14,[0,4,7,9,53,54,55],[4,7,9,5857]++dM)],rows:=[9],owns:=[53],bx:=[10000],uP:=[(53,3114688,[1])] }),
 (29,{ stay:=[11] }),
 (30,{ rows:=[6],ga:=[91],stay:=[14,19,25,30,40,45,54,67,77,82,88,93],own:=true }),
 (31,{ rows:=[2,5],stay:=[7],own:=true }),
 (32,{ loops:=[(2,[0,3],[]),(7,[0,4],[]),(11,[0,4,5,6],[]),(16,[0,7],[7])],rows:=[7] }),
 (33,{ loops:=[(6,[1,3,5,6,10,11],[3,5,6,8,10]++eV 5160++eV 5496++eV 10000),(14,[1,6,10,14,15],[6,8,10]++eV 5160++eV 5496++eV 10000)],rows:=[10,31],nq:=[14],nS:=[(17,eV 5160++eV 5496)],owns:=[21,47,62],uP:=[(21,3090112,[]),(47,3118784,[]),(62,3122880,[1])] }),
 (34,{ loops:=[(3,[0,1,5,6],[])] }),
 (35,{ loops:=[(2,[0,1,5],[])] }),
 (36,{ loops:=[(4,[0,1,5],[])] }),
 (37,{ loops:=[(8,[0,5,7,8,9],[8]),(12,[0,5,7,8,9,10,11],[8,10])],rows:=[8,10],nq:=[5,7,12],nS:=[(17,[10])] }),
 (38,{ loops:=[(7,[0,5,6,7],[6]),(15,[0,5,6,8,9,10],[6]),(19,[0,5,6,8,9,10,11,12],[6,11])],rows:=[6,13],nq:=[5,8,9] }),
 (39,{ loops:=[(3,[0,1,5,6],[5]),(8,[0,1,5,6,7,8],[5])],rows:=[5] }),
 (40,{ loops:=[(8,[0,5,7,8,9],[8])],rows:=[8],nq:=[5,7] }),
 (41,{ loops:=[(5,[2,6,7,8],[6,7,14]++eV 5112++eV 5160)],rows:=[7,10,14],nS:=[(8,[14]++eV 5112++eV 5160)] }),
 (44,{ loops:=[(4,[1,3],[1])] }),
 (45,{ loops:=[(4,[6,7,8,19,20,21],[6,16]),(8,[6,7,8,19,20,21,29,30,31],[6,16])],ga:=[18],bx:=[16] }),
 (46,{ loops:=[(14,[2,3,48,49,50],[2,3]++dM)],ga:=[64],bx:=[10000] }),
 (47,{ ga:=[83],bx:=[10000] }),
 (48,{ loops:=[(3,[3,4,6,16,17,18],[2,3,4,10,14,68]++eV 5160++eV 5208++eV 6104),(9,[3,4,6,9],[2,3,4,10,14,68]++eV 5160++eV 5208++eV 6104),(15,[4,6,10,72,73],[2,4,10,14,68]++eV 5160++eV 5208++eV 6104)],rows:=[10,13,69],nS:=[(19,[68]++eV 5160++eV 6104)],stay:=[68],owns:=[68] }),
 (49,{ loops:=[(2,[1,2,5],[2])] }),
 (51,{ loops:=[(2,[1,2,5],[2])] }),
 (52,{ owns:=[15,16],use:=[11,15],own:=true,uP:=[(15,3073728,[]),(16,3077824,[])] }),
 (53,{ own:=true }),
 (54,{ loops:=[(2,[2,3,4,5,8,9],[4,5,8]++eV 20000)],owns:=[34,46,47],use:=[32,33,45,46],own:=true,uP:=[(34,3094208,[]),(46,3098304,[]),(47,3102400,[])] }),
 (55,{ loops:=[(2,[1,3,4,5,7,10,11],[5,7,10]++eV 10000++eV 20000)],owns:=[27,39],use:=[26,34],own:=true,uP:=[(27,3106496,[]),(39,3110592,[])] }),
 (56,{ loops:=[(2,[1,2,7],[8])],rows:=[8] }),
 (57,{ own:=true }),
 (59,{ loops:=[(2,[0,1,5],[])] }),
 (60,{ loops:=[(3,[1,3,4],[1,10]),(8,[1,3,4,5,6],[1,10])],rows:=[10] }),
 (62,{ rows:=[2,5],stay:=[7],own:=true }),
 (63,{ ga:=[4],stay:=[6,8] }),
 (66,{ stay:=[7] }),
 (67,{ loops:=[(3,[4,16,17,18],[1,5192,5193])],nq:=[3,7,8],owns:=[12,24],uP:=[(12,3139264,[]),(24,3147456,[])] }),
 (69,{ loops:=[(2,[0,1,7,8],dM)],stay:=[7,16] }),
 (70,{ ga:=[6],stay:=[7] }),
 (72,{ stay:=[12,19,26,29] }),
 (73,{ loops:=[(4,[1,23,24,25],[2]++eV 10000++eV 20000)],rows:=[4],ga:=[30],stay:=[14],owns:=[31],own:=true,uP:=[(31,3151552,[1])] }),
 (74,{ loops:=[(3,[0,1,2,8,9,10],dM)],stay:=[13,30,46] }),
 (77,{ ga:=[4],stay:=[6,9] }),
 (78,{ loops:=[(2,[0,1,5],[])] }),
 (79,{ loops:=[(3,[1,3,4],[1,5121])],ga:=[20],owns:=[7,21],uP:=[(7,3143360,[1]),(21,3155648,[1])] }),
 (80,{ loops:=[(4,[1,2,5],[2]++eV 10000++eV 20000)],rows:=[4],ga:=[33],owns:=[34],own:=true,uP:=[(34,3159744,[1])] }),
 (81,{ loops:=[(3,[0,5,6],[])] }),
 (82,{ loops:=[(11,[0,3,5,7],[]),(17,[0,3,5,10],[]),(20,[0,3,5,10,11],[])],nq:=[3,5,12] }),
 (83,{ loops:=[(3,[0,3,4],[]),(6,[0,3,4,5],[])],nq:=[3] }),
 (84,{ loops:=[(4,[0,1,2,3,10,11,12],[])],nq:=[11] }),
 (85,{ loops:=[(3,[0,5,6],[])],nq:=[5] }),
 (86,{ loops:=[(12,[0,6,7],[])] }),
 (87,{ loops:=[(3,[0,3,4],[])],nq:=[3] }),
 (88,{ loops:=[(4,[1,7,8,9],[8])],rows:=[8],nq:=[7,10] }),
 (89,{ loops:=[(3,[3,4],[7]),(6,[3,4,5],[7])],rows:=[7],nq:=[6] }),
 (90,{ loops:=[(3,[0,1,2,3,9,10],[9]),(12,[9,11,12],[9])],rows:=[9] }),
 (93,{ loops:=[(3,[0,1,6,7],[])],nq:=[6,10] }),
 (94,{ loops:=[(2,[0,1,5],[])] }),
 (95,{ loops:=[(4,[1,2,3,7],[3]),(10,[1,2,3,8,9],[3])] }),
 (96,{ loops:=[(11,[2,5,6],[2])] }),
 (98,{ loops:=[(3,[1,3,12,13,14],[1,3]),(9,[3,6,36,37,38],[3,6])],rows:=[3] }),
 (99,{ stay:=[8] }),
 (101,{ loops:=[(2,[1,8,9,10],[2])] }),
 (102,{ bx:=[10001,10002] }),
 (103,{ bx:=[10001] }),
 (104,{ bx:=[10000] }),
 (107,{ bx:=[10002] }),
 (108,{ loops:=[(3,[0,7,12,13,14],[11]++dM)],stay:=[11],owns:=[11] }),
 (109,{ loops:=[(2,[0,2,10,11,12],dM)],bx:=[10000] }),
 (110,{ loops:=[(2,[0,2,4,18,19,20],[4]++dM),(8,[0,2,44,45,46],dM)] }),
 (111,{ rows:=[2,5],stay:=[7],own:=true }),
 (116,{ loops:=[(3,[2,8,9],[])],nq:=[8] }),
 (117,{ loops:=[(4,[0,1,5],[])] }),
 (118,{ loops:=[(2,[0,1,2,6,7,8],dM),(7,[0,1,2,6],dM),(9,[0,1,2,6,7,8],dM)],ga:=[14,23,36,55],stay:=[18,27,43,60] }),
 (120,{ loops:=[(2,[0,1,7,8],dM)],stay:=[7,16] }),
 (121,{ loops:=[(6,[4,5,13,14,15],[4,5,13]++eV 5064++eV 5080)],rows:=[2,3,4,5],ga:=[9,13,21,26],stay:=[22,27],own:=true }),
 (122,{ stay:=[7] }),
 (123,{ ga:=[6,10,12],stay:=[7,11,13] }),
 (124,{ loops:=[(2,[0,1,5],[])] }),
 (125,{ loops:=[(3,[0,3,4],[]),(7,[0,3,4,5,6],[]),(12,[0,3,4,5,6,7],[])],nq:=[3,5] }),
 (126,{ loops:=[(3,[0,1,5,6],[5])],rows:=[5] }),
 (127,{ loops:=[(2,[1,2,6],[2])] }),
 (128,{ loops:=[(3,[0,1,5,6],[5])],rows:=[5] }),
 (129,{ loops:=[(2,[0,3],[])],rows:=[18] }),
 (130,{ loops:=[(4,[0,1,5],[])] }),
 (131,{ loops:=[(4,[0,3],[])] }),
 (132,{ loops:=[(2,[0,3],[])] }),
 (133,{ loops:=[(2,[0,3],[]),(6,[0,3,4,5],[])],nq:=[4] }),
 (134,{ loops:=[(3,[0,3,4],[3]),(7,[0,3,4,5,6],[3])],rows:=[3] }),
 (135,{ loops:=[(5,[0,5,6],[15]),(8,[0,5,6,7],[15]),(14,[5,8,9],[15])],rows:=[15],nq:=[8] }),
 (136,{ loops:=[(2,[0,1,5],[])] }),
 (137,{ loops:=[(3,[0,4,5],[6])],rows:=[6] }),
 (138,{ loops:=[(2,[0,1,5],[])] }),
 (141,{ loops:=[(4,[0,5,6,7],[5]),(9,[0,5,6,7,8,9,10],[5])],rows:=[5],nq:=[6,8] }),
 (144,{ loops:=[(6,[1,3],[1])] }),
 (146,{ rows:=[9] }),
 (147,{ loops:=[(3,[0,3,4,5,13,14,15],[3,4,5]++eV 5080),(8,[0,4,5,33,34,35],[3,4,5]++eV 5080),(12,[0,4,5,10,33,34,35,43,44,45],[3,4,5,9,10]++eV 5080++eV 5160++eV 5656)],rows:=[5,10,41],nS:=[(16,eV 5160++eV 5656),(18,eV 5080)] }),
 (149,{ loops:=[(3,[2,3,8,9],[2,3,5]++eV 5048++eV 5112)],rows:=[3,7],nS:=[(7,eV 5048++eV 5112)] }),
 (150,{ loops:=[(3,[3,9,10,11],[1]),(6,[3,9,10,11,16,17,18],[1,5])] }),
 (151,{ loops:=[(4,[3,4,13,14,15],[1,4]),(7,[3,4,5,13,14,15,21,22,23],[1,4,6])],rows:=[4],nq:=[9],stay:=[31,42],owns:=[31] }),
 (152,{ rows:=[22] }),
 (153,{ loops:=[(2,[0,1,7,8],dM)],stay:=[7,16] }),
 (157,{ loops:=[(2,[0,1,7,8],dM)],bx:=[10001,10002] }),
 (159,{ rows:=[2,5],stay:=[7],own:=true }),
 (161,{ loops:=[(2,[2,15,16,17],[])] }),
 (162,{ owns:=[20],use:=[20] }),
 (163,{ loops:=[(3,[0,3,4,5,6],[3,4,5]++eV 5080),(7,[0,3,4,5,7],[3,4,5]++eV 5080),(12,[0,3,4,5,7,8,9,10],[3,4,5,8]++eV 5080++eV 5128++eV 5704)],rows:=[5,8,44],nS:=[(15,eV 5128++eV 5704),(16,eV 5080)] }),
 (164,{ rows:=[38],nS:=[(3,[5304])],owns:=[11,13,19,27],use:=[12,18,27,38],uP:=[(11,3126976,[]),(13,3131072,[]),(19,3135168,[])] }),
 (165,{ loops:=[(2,[1,2,6],[2])] }),
 (168,{ loops:=[(1,[0,1,2,3,8],dM),(4,[0,1,2,3,8,9],dM)],stay:=[32] }),
 (169,{ loops:=[(3,[0,1,4,10,11],dM),(9,[0,10,13],dM),(15,[0,2,4,14,15],dM),(21,[0,14,17],dM),(33,[0,1,2,3,4,18,19,20,21,22],dM)],ga:=[186,200,214],stay:=[49,101,169,191,205,219] }),
 (171,{ loops:=[(7,[3,24,25,26],[4]++dM)] }),
 (172,{ ga:=[5],stay:=[4,9,10] }),
 (173,{ loops:=[(4,[0,3],[10000]),(9,[0,3,4,5],[10000])],nq:=[4],stay:=[7,12,31] }),
 (174,{ loops:=[(2,[0,1,7,8],[])],stay:=[7] }),
 (175,{ loops:=[(1,[0,2,3],[10000])],stay:=[5] }),
 (178,{ loops:=[(2,[0,1,5],[])] }),
 (179,{ loops:=[(2,[1,2,5],[2])] }),
 (180,{ loops:=[(3,[0,1,5,6],[])],nq:=[5] }),
 (181,{ loops:=[(5,[0,5,6],[16]),(9,[0,5,6,7,8],[16]),(15,[5,9,10],[16])],rows:=[16],nq:=[7,9] }),
 (182,{ loops:=[(3,[0,3,4],[3])],rows:=[3] }),
 (183,{ loops:=[(3,[0,1,5,6],[5])],rows:=[5] }),
 (185,{ loops:=[(13,[1,3,4],[1])] }),
 (186,{ rows:=[10] }),
 (189,{ loops:=[(12,[2,6,7,8,40,41,42],[2,8]++eV 5128++eV 5624)],rows:=[8,39],nq:=[4,6,7],nS:=[(16,eV 5128++eV 5624)] }),
 (190,{ loops:=[(4,[0,1,12,13],[])],stay:=[7,9,12] }),
 (191,{ loops:=[(2,[0,4,15,16,17],dM),(8,[0,4,7,15,16,17,46,47,48],[6,7]++dM)],rows:=[7],nS:=[(12,[7])] }),
 (192,{ loops:=[(3,[3,7,8],[3,7,15]++eV 5112++dM)],rows:=[7,15],ga:=[16] }),
 (193,{ loops:=[(3,[1,2,4,5,16,17],[2,4,5,7,14]++eV 5080++eV 5112++dM)],rows:=[5,7,14],ga:=[24],nS:=[(11,eV 5112)] }),
 (195,{ loops:=[(2,[1,7,8,9],[])] }),
 (196,{ loops:=[(3,[2,3,6,8,12,13,14],[3,6,8]++eV 5128)],rows:=[8],ga:=[45],nS:=[(10,eV 5128)],owns:=[48],use:=[47],uP:=[(48,3163840,[0])] }),
 (197,{ loops:=[(6,[1,2,18,19,20],[1,2])] }),
 (198,{ stay:=[29] }),
 (199,{ loops:=[(3,[0,1,5,6],[9]),(7,[0,1,5,6,7,8],[7,9]++eV 5112++eV 5368)],rows:=[7,9,23],nS:=[(10,eV 5112++eV 5368)] }),
 (200,{ loops:=[(5,[0,1,5,6,7,8],[7,20,23]),(11,[5,6,7,9],[7,20,23]),(17,[5,6,7,9,10,11,12],[7,20,23]),(23,[5,6,7,9,10,11,13,14],[7,20,23,112])],rows:=[7,23,112],owns:=[20],use:=[158] }),
 (201,{ loops:=[(5,[7,8,9,10],[29])],rows:=[29] }),
 (202,{ loops:=[(3,[0,3,4],[3])],rows:=[2,3],mvs:=[2,3],own:=true }),
 (203,{ loops:=[(3,[1,2,3,8,9],[3,15]),(10,[1,2,8,12],[15])],rows:=[15] }),
 (204,{ loops:=[(3,[0,1,2,3,8,9,10],[8,9]++eV 5144),(7,[0,1,3,8,9,11],[8,9]++eV 5144),(11,[0,1,3,8,9,11,12,13],[8,9]++eV 5144)],rows:=[9],nS:=[(17,eV 5144)],take:=[79],Qb:=[(29,[1])],nest:=[(5128,1,57,2),(5144,1,57,2)] }),
 (205,{ loops:=[(3,[1,2,4,6,7],[2,4,9000,9001,9002]++eV 20000)],own:=true,take:=[45],Qb:=[(33,[1])],nest:=[(5064,1,57,2)] }),
 (208,{ loops:=[(2,[0,2,4,10,11],dM)],ga:=[24,35,50],stay:=[31,46,57] }),
 (209,{ loops:=[(2,[0,1,2,3,8,9],[10000])],ga:=[24,30,36,51,69,88,95,117,127],stay:=[27,33,39,46,54,72,85,92,99,121,132] }),
 (211,{ loops:=[(4,[0,1,3,4,5,6],[12,15,16]++dM),(8,[0,1,3,4,5,6,42,43,44],[12,15,16]++dM)],rows:=[12,15,16],stay:=[68],owns:=[68],use:=[72] }),
 (213,{ loops:=[(6,[4,6,20,21,22],[6])],rows:=[6] }),
 (215,{ loops:=[(10,[0,5,6,9,34,35,36],[9]),(18,[0,5,6,9,12,14,34,35,36,53,54,55],[9,12,14])],rows:=[9,14],nq:=[5,6,7],ga:=[77] }),
 (216,{ loops:=[(3,[1,2,5,6,12,13],[2,5,6]),(9,[2,5,6,30,31,32],[2,5,6])],rows:=[5,6],nS:=[(8,[2])] }),
 (217,{ loops:=[(8,[0,2,3,9,10,11],[11]++dM)],rows:=[11],nq:=[9,10],use:=[150] }),
 (218,{ loops:=[(1,[0,1],dM)] }),
 (219,{ loops:=[(9,[3,4,7,8,49,50,51],[8]++dM)],rows:=[8],use:=[69] }),
 (221,{ loops:=[(3,[0,5,13,14,15],eV 10000++eV 20000),(7,[0,5,8,13,14,15,23,24,25],[7,8]++eV 5128++eV 5336++eV 10000++eV 20000)],rows:=[4,8,21],nS:=[(11,eV 5128++eV 5336)],own:=true }),
 (222,{ loops:=[(5,[1,5,13,14,15],[2,11])] }),
 (223,{ loops:=[(8,[2,4,5,8,22,23,24],[2,4,5,6,8,13,20]++eV 5096++eV 5128++eV 5336),(12,[2,4,5,8,9,10,11,22,23,24,38,39],[2,4,5,6,8,13,20,36]++eV 5096++eV 5128++eV 5336)],rows:=[6,8,20,21],ga:=[14],nS:=[(16,[36]),(18,[20]++eV 5128++eV 5336)],stay:=[35,36],owns:=[36] }),
 (224,{ loops:=[(3,[0,1,5,14,15],[12])],rows:=[12] }),
 (227,{ loops:=[(2,[0,1,6],[])] }),
 (228,{ loops:=[(3,[2,8,9],[])] }),
 (229,{ loops:=[(3,[1,2,4,5,6],[2,4,7,14]++eV 5112++eV 5208),(9,[2,4,5,7,8],[2,4,7,14]++eV 5112++eV 5208),(14,[2,4,5,7,8,9,10,11],[2,4,7,9,14,56]++eV 5112++eV 5208)],rows:=[7,13],nS:=[(17,[56]),(18,eV 5112)],owns:=[56] }),
 (230,{ loops:=[(1,[0,1,2,3,10],dM)] }),
 (231,{ loops:=[(1,[0,1,2,6],[10000]),(4,[0,1,2,6,7],[10000])],stay:=[29] }),
 (232,{ loops:=[(4,[0,6,7,8,9],[10000]),(8,[0,6,7,10],[10000])],ga:=[22,51],stay:=[26,55] }),
 (233,{ loops:=[(5,[0,1,6,7,8,9],[7,10000])],stay:=[19,36] }),
 (234,{ stay:=[37,40,43,48] }),
 (235,{ loops:=[(2,[0,6,7],[10000])] }),
 (236,{ loops:=[(3,[0,1,2,7,8],[10000]),(5,[0,1,2,7,8],[10000]),(14,[0,1,2,7,8,9],[10000]),(20,[0,1,2,7,8,10],[10000])],stay:=[30,77,115] }),
 (238,{ loops:=[(3,[0,1,9,10],[10000]),(5,[0,1,9,10],[10000])],stay:=[41,58] }),
 (239,{ loops:=[(3,[0,1,10,11],[10000]),(5,[0,1,10,11],[10000]),(13,[0,1,10,11],[10000]),(15,[0,1,10,11],[10000])],stay:=[42,58,111,127] }),
 (243,{ loops:=[(6,[4,6,24,25,26],[21,23]++eV 5352)],rows:=[22],nq:=[4],nS:=[(8,[8])],stay:=[38] }),
 (244,{ loops:=[(11,[0,5,20,21,22],[])] }),
 (245,{ loops:=[(3,[0,4,15,16,17],[4]),(10,[0,4,7,32,33,34],[4,31]),(14,[0,4,7,8,10,32,33,34,41,42,43],[4,10,31])],rows:=[4,10,31],ga:=[27] }),
 (246,{ loops:=[(5,[5,6,13,14,15],[4,5,11]++eV 5080),(10,[5,6,9],[4,5,11]++eV 5080),(13,[5,6,9,10],[4,5,11]++eV 5080)],rows:=[5],nq:=[8],ga:=[12] }),
 (247,{ loops:=[(2,[1,7,8,9],dM)],nq:=[6] }),
 (249,{ loops:=[(3,[3,6,7,8],[3]),(5,[3,4,5,6,7,8],[3])],rows:=[3] }),
 (250,{ loops:=[(12,[0,1,5,39,40,41],[]),(22,[1,8,63,64,65],[8]++eV 5128)],rows:=[8] }),
 (251,{ loops:=[(5,[5,6,7,17,18,19],[7])],rows:=[7],nq:=[5] }),
 (252,{ ga:=[7],stay:=[6,11,13] }),
 (254,{ loops:=[(3,[3,6,7,8],[])] }),
 (256,{ loops:=[(3,[3,6,7,8],[])] }),
 (260,{ stay:=[7] }),
 (261,{ loops:=[(2,[1,7,8,9],[])] }),
 (262,{ loops:=[(3,[2,4,25,26,27],[25]++dM)],stay:=[24,25],owns:=[25] }),
 (263,{ rows:=[4],ga:=[8],stay:=[7,10],own:=true }),
 (266,{ loops:=[(2,[0,3],[])] }),
 (267,{ loops:=[(4,[0,4,5],dM)],nq:=[4],owns:=[36] }),
 (268,{ loops:=[(3,[0,3,4],[3,6]),(6,[0,3,4,5],[3,6])],rows:=[2,3,6],mvs:=[2,3,6],own:=true }),
 (269,{ loops:=[(1,[0,2,3,8],[10000])],stay:=[35,51] }),
 (270,{ stay:=[5] }),
 (272,{ stay:=[14] }),
 (273,{ stay:=[16,24,32] }),
 (275,{ nq:=[8],ga:=[30] }),
 (276,{ loops:=[(2,[0,1,7,8],dM)],stay:=[7,16] }),
 (278,{ loops:=[(3,[0,3,19,20,21],[15]++dM),(6,[0,3,19,20,21,26,27,28],[5,15]++dM),(14,[0,3,43,44,45],[15]++dM),(17,[0,3,9,43,44,45,50,51,52],[9,15]++dM),(29,[0,82],[82]++dM)],ga:=[100],stay:=[66,101] }),
 (279,{ loops:=[(2,[1,10,11,12],[1]++dM)],ga:=[20],stay:=[18,21] }),
 (280,{ loops:=[(2,[0,15,16],dM),(7,[0,4,5,15,16,25,26,27],[4]++dM)],rows:=[4],nq:=[8],nS:=[(16,[4])],stay:=[21] }),
 (282,{ loops:=[(3,[3,9,10,11],[8])] }),
 (283,{ loops:=[(3,[3,12,13,14],[]),(6,[3,5,12,13,14,19,20,21],[5])],nq:=[8] }),
 (284,{ loops:=[(5,[3,4,5,18,19,20],[5,16,17]),(11,[3,4,5,7,18,19,20,40,41,42],[5,7,16,17]),(17,[3,4,5,10],[5,10,16,17]),(22,[3,4,5,10,71,72,73],[5,10,16,17])],rows:=[5,10,17,46,48],ga:=[62],nS:=[(16,[17])] }),
 (285,{ loops:=[(3,[1,5,15,16,17],[14]),(9,[1,5,7,15,16,17,34,35,36],[7,14])],rows:=[14,30,40,42],nq:=[8],nS:=[(14,[14])] }),
 (286,{ loops:=[(3,[0,1,6,7,8],[])],stay:=[11,27,47,50] }),
 (287,{ loops:=[(3,[0,4,10,11,12],[]),(11,[7,30,31,32],[29])],rows:=[29] }),
 (289,{ loops:=[(3,[3,11,12,13],[10]),(6,[3,5,6,11,12,13],[10])],rows:=[10] }),
 (294,{ loops:=[(4,[5,6,13,14,15],[6])],rows:=[6],nq:=[9],ga:=[31,33] }),
 (295,{ loops:=[(3,[3,9,10,11],[8])] }),
 (296,{ loops:=[(7,[0,7,8,9],[20,24]),(10,[0,7,8,9,36,37,38],[20,24])],rows:=[24],nq:=[5],ga:=[53] }),
 (298,{ loops:=[(2,[0,1,2,3,4,10,11],dM)],ga:=[26,33,40,57,76,98,106,129,140],stay:=[30,37,44,52,61,80,94,103,111,134,146] }),
 (301,{ loops:=[(2,[0,1,7,8],dM)],stay:=[7,16] }),
 (303,{ stay:=[4] }),
 (304,{ ga:=[7],stay:=[6,11,13] }),
 (305,{ loops:=[(1,[0,5,6,7],dM)],stay:=[6,13] }),
 (306,{ stay:=[18] }),
 (309,{ loops:=[(1,[0,1,4],[10000])] }),
 (310,{ loops:=[(11,[0,1,3,4,10,11,12,13,14,15,16],[12,10000]),(18,[0,1,3,4,10,11,12,13,17],[12,10000])] }),
 (312,{ stay:=[7] }),
 (314,{ loops:=[(3,[0,3,5,11,12,13],[3,5]++dM)],rows:=[5],nS:=[(2,[3])],stay:=[20] }),
 (315,{ ga:=[6],stay:=[7] }),
 (317,{ loops:=[(4,[1,2,5,6,16,17,18],[2,5,11]++dM),(8,[1,2,5,6,16,17,18,36,37,38],[2,5,8,11]++dM)],ga:=[12],stay:=[33],keep:=fouN 10001 }),
 (319,{ stay:=[7] }),
 (322,{ loops:=[(5,[0,3,4],[])],stay:=[6,14,23] }),
 (323,{ loops:=[(5,[0,1,5,6],dM)],stay:=[10,18,28] }),
 (327,{ nq:=[4] }),
 (328,{ loops:=[(1,[0,1,2,3,8],dM),(4,[0,1,2,3,8,9],dM)],stay:=[32] }),
 (329,{ loops:=[(4,[0,3,8,9,10,11],dM),(8,[0,3,8,9,12],dM)],ga:=[24,54],stay:=[29,59] }),
 (330,{ loops:=[(5,[0,1,8,9,10,11],[9]++dM)],stay:=[21,38] }),
 (331,{ stay:=[40,44,48,54] }),
 (332,{ loops:=[(2,[0,8,9],dM)] }),
 (333,{ loops:=[(3,[0,1,2,3,9,10],dM),(5,[0,1,2,3,9,10],dM),(14,[0,1,2,3,9,10,11],dM),(20,[0,1,2,3,9,10,12],dM)],stay:=[33,82,122] }),
 (334,{ loops:=[(3,[0,1,4,11,12],dM),(5,[0,1,4,11,12],dM)],stay:=[44,63] }),
 (335,{ loops:=[(3,[0,1,4,12,13],dM),(5,[0,1,4,12,13],dM),(13,[0,1,4,12,13],dM),(15,[0,1,4,12,13],dM)],stay:=[45,63,118,136] }),
 (337,{ loops:=[(2,[0,1,2,3,4,10,11],dM)],ga:=[26,33,40,57,76,98,106,129,140],stay:=[30,37,44,52,61,80,94,103,111,134,146] }),
 (342,{ loops:=[(4,[1,16],[16]++dM)] }),
 (344,{ loops:=[(2,[0,1,7,8],dM)],stay:=[7,16] }),
 (346,{ nq:=[4,5],stay:=[10] }),
 (348,{ loops:=[(2,[1,7,8,9],dM)] }),
 (350,{ loops:=[(2,[0,1,7,8],dM)],stay:=[7,16] }),
 (354,{ loops:=[(1,[0,2,3,4,10],dM)],stay:=[38,56] }),
 (355,{ stay:=[17] }),
 (356,{ stay:=[19,28,37] }),
 (357,{ loops:=[(1,[0,1,2,3,8],dM),(4,[0,1,2,3,8,9],dM)],stay:=[32] }),
 (358,{ loops:=[(4,[0,3,8,9,10,11],dM),(8,[0,3,8,9,12],dM)],ga:=[24,54],stay:=[29,59] }),
 (359,{ loops:=[(5,[0,1,8,9,10,11],[9]++dM)],stay:=[21,38] }),
 (360,{ stay:=[40,44,48,54] }),
 (361,{ loops:=[(2,[0,8,9],dM)] }),
 (362,{ loops:=[(3,[0,1,2,3,9,10],dM),(5,[0,1,2,3,9,10],dM),(14,[0,1,2,3,9,10,11],dM),(20,[0,1,2,3,9,10,12],dM)],stay:=[33,82,122] }),
 (363,{ loops:=[(3,[0,1,4,11,12],dM),(5,[0,1,4,11,12],dM)],stay:=[44,63] }),
 (364,{ loops:=[(3,[0,1,4,12,13],dM),(5,[0,1,4,12,13],dM),(13,[0,1,4,12,13],dM),(15,[0,1,4,12,13],dM)],stay:=[45,63,118,136] }),
 (367,{ stay:=[21] }),
 (368,{ loops:=[(1,[0,2,3,4,10],dM)],stay:=[38,56] }),
 (369,{ stay:=[17] }),
 (370,{ stay:=[19,28,37] }),
 (371,{ stay:=[21] })]
def H (f:Nat):Hint:=(find hints f).getD {}
def gT:eX:=λf args cM=>match f,args,cM with
 |159,[.pv (.dK 1 xs)],[]=>bif Nat.ble (xs.length *8) 140737488355328 then some (.gy [.gy [.self 3, .dK 1 xs]],[]) else none
 |111,[.pv (.dK 2 xs)],[]=>bif Nat.ble (xs.length *32) 140737488355328 then some (.gy [.gy [.self 60, .dK 2 xs]],[]) else none
 |31,[.pv (.dK 3 xs)],[]=>bif Nat.ble (xs.length *64) 140737488355328 then some (.gy [.gy [.self 66, .dK 3 xs]],[]) else none
 |62,[.pv (.dK 6 xs)],[]=>bif Nat.ble (xs.length *112) 140737488355328 then some (.gy [.gy [.self 62, .dK 6 xs]],[]) else none
 |172,[.row 10000],[(10000, .row 9 1 xs)]=>match strs xs with
  |some l=>bif Nat.ble l.length 1073741824 then some (.gy [],[(10000, .row 9 1 ((oM Op.bytesLess l).map jL))]) else none
  |none=>none
 |263,[.pv (.fn 305 [.ref [.dK 2 xs]]), .pv (.fn 265 [])],[]=>match Bv xs with
  |some l=>bif Bu l&&Nat.ble l.length 1073741824 then some (.gy [.gy [.self 57, .dK 2 ((oM WG l).map SR)]],[]) else none
  |none=>none
 |65,[.pv (.str a), .pv (.str b)],[]=>some (.int .i64 (Ks a b),[])
 |72,[.row 10000, .pv (.int .i64 i), .pv (.int .i64 j)],[(10000, .row e 6 xs)]=>bif decide (0<=i)&&decide (i<j)&&decide (j<=xs.length)&&Nat.beq e 62 then some (.self (xs.length-(j-i).toNat),[(10000, .row e 6 (xs.take i.toNat++xs.drop j.toNat++List.replicate (j-i).toNat aa5))]) else none
 |30,[.row 20000, .pv (.int .i64 i), .pv (.dK 3 [y])],[(20000, .row e 3 xs)]=>bif decide (0<=i)&&decide (i<=xs.length)&&Nat.ble ((xs.length+1) *64) 140737488355328&&Nat.beq e 66 then some (.gy [.gy [.self 0, .lY, .self 20000]],[(20000, .row e 3 (xs.take i.toNat++[y]++xs.drop i.toNat))]) else none
 |_,_,_=>none
noncomputable abbrev Rn:eX:=run P H gT
instance:JU Node Node.enc:=⟨⟩
instance:JU FSt FSt.enc:=⟨⟩
instance:JU aB aB.enc:=⟨⟩
instance:JU fL fL.enc:=⟨⟩
instance:JU dg dg.enc:=⟨⟩
instance:JU cD cD.enc:=⟨⟩
instance:JU er er.enc:=⟨⟩
instance:JU fT fT.enc:=⟨⟩
instance:JU gi gi.enc:=⟨⟩
instance:JU dN dN.enc:=⟨⟩
instance:JU Template Template.enc:=⟨⟩
instance:JU tag tag.enc:=⟨⟩
instance:JU Def Def.enc:=⟨⟩
instance:JU bQ bQ.enc:=⟨⟩
instance:JU (List cD) (nC 2 cD.enc):=⟨⟩
instance:JU (List gi) (nC 2 gi.enc):=⟨⟩
instance {x:fL}:En x.Code (eC .u64):=⟨⟩
instance {x:fT}:En x.Code (eC .u64):=⟨⟩
instance {Name:List UInt8} {Path:List Int} {l q:AV} [w:Rw (AV.str Name) l] [z:Rw (AV.dK 1 (List.map (eC .i64) Path)) q]:Rw (tag.enc ⟨Name,Path⟩) [l,q]:=⟨by rw[<-w.e,<-z.e];rfl⟩
instance {l:Int} {q:Int} {w z:AV} [B:Rw (AV.int .i64 l) w] [D:Rw (AV.int .i64 q) z]:Rw (cD.enc ⟨l,q⟩) [w,z]:=⟨by rw[<-B.e,<-D.e];rfl⟩
instance {l:Int} {q:List cD} {w z:AV} [B:Rw (AV.int .i64 l) w] [D:Rw (AV.dK 2 (List.map cD.enc q)) z]:Rw (Node.enc ⟨l,q⟩) [w,z]:=⟨by rw[<-B.e,<-D.e];rfl⟩
instance:Gn MJ:=⟨⟩
instance:Gn Em:=⟨⟩
instance:Gn Eo:=⟨⟩
instance:Gn CV:=⟨⟩
instance:Gn IX:=⟨⟩
instance:Gn OF:=⟨⟩
instance:Gn MK:=⟨⟩
instance:Gn OG:=⟨⟩
instance:Gn R8:=⟨⟩
instance:Gn ML:=⟨⟩
instance:Gn ug:=⟨⟩
instance:Gn Ep:=⟨⟩
instance:Gn IY:=⟨⟩
instance:Gn DJ:=⟨⟩
instance:Gn yy:=⟨⟩
instance:Gn R7:=⟨⟩
instance {d:bQ}:En d.Kids bQ.iw:=⟨⟩
instance {d:bQ}:U7 d.Kids bQ.iw bQ.enc:=⟨bQ.lI⟩
instance {d:Def}:En d.c8 bQ.iw:=⟨⟩
instance {d:Def}:U7 d.c8 bQ.iw bQ.enc:=⟨bQ.lI⟩
theorem eu:JU Int (eC .u64):=⟨⟩
instance:EnR (List (List UInt8)) (pL 1 jL):=⟨⟩
instance:EnR (List Int) (pL 1 (eC .i64)):=⟨⟩
abbrev Lt {l:Type} (f t:Option l):Prop:=∀{r:l},t=some r->f=some r
noncomputable abbrev rn {l:Type} (q:l->AV) (f:Nat) (a:List SV):Option l:=dec (EN q) (Rn f a [])
noncomputable abbrev hd {l:Type} (q:l->AV) (f k:Nat) (e:List (Nat×SV)) (o:List (Nat×Ob)):Option l:=dec (EN q) (yK P w6 H gT f k [] e o)
noncomputable abbrev hx {w:Type} (q:w->Out) (f k:Nat) (l:List Nat) (e:List (Nat×SV)) (o:List (Nat×Ob)):Option w:=dec q (yK P w6 H gT f k l e o)
abbrev Sk (x:fT):Ob:= .box 106 (List.map .pv (fT.enc x))
abbrev sL (x:aB):Ob:= .box 116 (List.map .pv (aB.enc x))
abbrev HQ (x:world):Ob:= .box 226 (List.map .pv (world.enc x))
abbrev kP (x:bQ):Ob:= .box 27 (List.map .pv (bQ.enc x))
abbrev eT (x:FSt):Ob:= .box 30 (List.map .pv (FSt.enc x))
abbrev eL (x:aV):Ob:= .box 36 (List.map .pv (aV.enc x))
abbrev Ct (x:Node):Ob:= .box 60 (List.map .pv (Node.enc x))
abbrev yD (x:Def):Ob:= .box 62 (List.map .pv (Def.enc x))
abbrev Da (x:Template):Ob:= .box 66 (List.map .pv (Template.enc x))
abbrev zY (x:state):Ob:= .box 74 (List.map .pv (state.enc x))
abbrev xI (x:List (V3.T×V3.T)):Ob:= .mp 3 3 (fu V3 V3 x).1 (fu V3 V3 x).2
abbrev T3 (x:List (V3.T×V4.T)):Ob:= .mp 3 4 (fu V3 V4 x).1 (fu V3 V4 x).2
abbrev rF (x:List (V9.T×Bh.T)):Ob:= .mp 9 107 (fu V9 Bh x).1 (fu V9 Bh x).2
abbrev mR (x:List (V9.T×V4.T)):Ob:= .mp 9 4 (fu V9 V4 x).1 (fu V9 V4 x).2
abbrev pb_ (x:Bool):SV:= .pv (.bool x)
abbrev pg_Arc (x:cD):SV:= .pv (.agg (cD.enc x))
abbrev Um (x:fT):SV:= .pv (.agg (fT.enc x))
abbrev Ao (x:Def):SV:= .pv (.agg (Def.enc x))
abbrev ki (x:bQ):SV:= .pv (.agg (bQ.enc x))
abbrev nP (x:FSt):SV:= .pv (.agg (FSt.enc x))
abbrev cB (x:aV):SV:= .pv (.agg (aV.enc x))
abbrev pg_Node (x:Node):SV:= .pv (.agg (Node.enc x))
abbrev Un (x:Template):SV:= .pv (.agg (Template.enc x))
abbrev ID (x:aB):SV:= .pv (.agg (aB.enc x))
abbrev Uo (x:fL):SV:= .pv (.agg (fL.enc x))
abbrev Up (x:world):SV:= .pv (.agg (world.enc x))
abbrev aD (x:Int):SV:= .pv (.int .i64 x)
abbrev Y0 (x:Int):SV:= .pv (.int .u8 x)
abbrev Qh (x:List (FSt)):SV:= .pv (.dK 1 (List.map FSt.enc x))
abbrev fq (x:List (Int)):SV:= .pv (.dK 1 (List.map (eC .i64) x))
abbrev vL (x:List (List (Int))):SV:= .pv (.dK 1 (List.map (nC 1 (eC .u64)) x))
abbrev Qi (x:List (List (gi))):SV:= .pv (.dK 1 (List.map (nC 2 gi.enc) x))
abbrev gV (x:List (Int)):SV:= .pv (.dK 1 (List.map (eC .u64) x))
abbrev cT (x:List (List UInt8)):SV:= .pv (.dK 1 (List.map jL x))
abbrev Lx (x:List (gi)):SV:= .pv (.dK 2 (List.map gi.enc x))
abbrev lJ (x:List (cD)):SV:= .pv (.dK 2 (List.map cD.enc x))
abbrev ij (x:List (fT)):SV:= .pv (.dK 2 (List.map fT.enc x))
abbrev FC (x:List (er)):SV:= .pv (.dK 2 (List.map er.enc x))
abbrev dW (x:List (dg)):SV:= .pv (.dK 2 (List.map dg.enc x))
abbrev dP (x:List (Node)):SV:= .pv (.dK 2 (List.map Node.enc x))
abbrev cV (x:List (Template)):SV:= .pv (.dK 3 (List.map Template.enc x))
abbrev bC (x:List (aB)):SV:= .pv (.dK 3 (List.map aB.enc x))
abbrev eU (x:List (fL)):SV:= .pv (.dK 4 (List.map fL.enc x))
abbrev lK (x:List (Def)):SV:= .pv (.dK 6 (List.map Def.enc x))
abbrev tF (x:List UInt8):SV:= .pv (.str x)
abbrev gP (n:Nat):Nat×SV:=(n, .ptr n 0)
abbrev yq (n:Nat):Nat×SV:=(n, .row n)
abbrev B7 (x:List (List (Int))):Ob:= .row 104 1 (List.map (nC 1 (eC .u64)) x)
abbrev y3 (x:List (List (gi))):Ob:= .row 109 1 (List.map (nC 2 gi.enc) x)
abbrev yu (x:List (fL)):Ob:= .row 111 4 (List.map fL.enc x)
abbrev LV (x:List (gi)):Ob:= .row 154 2 (List.map gi.enc x)
abbrev rI (x:List (dg)):Ob:= .row 165 2 (List.map dg.enc x)
abbrev qL (x:List (er)):Ob:= .row 167 2 (List.map er.enc x)
abbrev qc (x:List (tag)):Ob:= .row 190 2 (List.map tag.enc x)
abbrev y4 (x:List (Int)):Ob:= .row 244 1 (List.map (eC .u64) x)
abbrev kW (x:List (dN)):Ob:= .row 275 2 (List.map dN.enc x)
abbrev y5 (x:List (FSt)):Ob:= .row 30 1 (List.map FSt.enc x)
abbrev eB (x:List (Int)):Ob:= .row 3 1 (List.map (eC .i64) x)
abbrev iW (x:List (cD)):Ob:= .row 57 2 (List.map cD.enc x)
abbrev oB (x:List (List (cD))):Ob:= .row 58 1 (List.map (nC 2 cD.enc) x)
abbrev dX (x:List (Node)):Ob:= .row 60 2 (List.map Node.enc x)
abbrev iy (x:List (Def)):Ob:= .row 62 6 (List.map Def.enc x)
abbrev fV (x:List (Template)):Ob:= .row 66 3 (List.map Template.enc x)
abbrev dQ (x:List (List UInt8)):Ob:= .row 9 1 (List.map jL x)
abbrev Xt:=λl q w z B=>([(10000,(.box 84 [(eU l),(dW q),(cV w),(.row 10001),(dP z)])),(10001,(rF B))]:List (Nat×Ob))
abbrev Zu:=λl q w z B=>([(10000,(.box 257 [(eU l),(dW q),(.row 20001),(.row 20002),(.row 20003)])),(20001,(eB w)),(20002,(eB z)),(20003,(oB B))]:List (Nat×Ob))
abbrev Zv:=λl q w z B D=>([(10000,(.box 68 [(.ptr 10002 0)])),(10001,(.box 107 [(fq l)])),(10002,(.box 84 [(eU q),(dW w),(cV z),(.row 10003),(dP B)])),(10003,(rF D))]:List (Nat×Ob))
abbrev tl3:=λl q w z B=>([(10000,(.box 68 [(.ptr 10001 0)])),(10001,(.box 84 [(eU l),(dW q),(cV w),(.row 10002),(dP z)])),(10002,(rF B))]:List (Nat×Ob))
abbrev tl4:=λl=>([(10000,(.box 137 [(.row 10001)])),(10001,(mR l))]:List (Nat×Ob))
abbrev tl5:=λl q w z B D F=>([(10000,(.box 254 [(.ptr 10004 0)])),(10001,(.box 107 [(.row 20005)])),(10002,(.box 30 [(.row 20006)])),(10003,(.box 277 [(.cl 219 [.p 10000, .p 10001, .p 10002, .p 10003])])),(10004,(.box 257 [(eU l),(dW q),(.row 20007),(.row 20008),(.row 20009)])),(20005,(eB w)),(20006,(dX z)),(20007,(eB B)),(20008,(eB D)),(20009,(oB F))]:List (Nat×Ob))
abbrev tl6:=λl q w z=>([(10000,(.box 184 [(eU l),(dW q),(.row 20001),(.row 20002)])),(20001,(eB w)),(20002,(eB z))]:List (Nat×Ob))
abbrev tl7:=λl q=>([(4,(.box 24 [(.row 5064)])),(5,(.box 24 [(.row 5080)])),(13,(.box 238 [(.ptr 4 0),(.ptr 5 0)])),(5064,(dQ l)),(5080,(dQ q))]:List (Nat×Ob))
abbrev tl8:=λl q w z B D=>([(10000,(.box 254 [(.ptr 10002 0)])),(10001,(.box 276 [(.row 20003)])),(10002,(.box 257 [(eU l),(dW q),(.row 20004),(.row 20005),(.row 20006)])),(20003,(kW w)),(20004,(eB z)),(20005,(eB B)),(20006,(oB D))]:List (Nat×Ob))
abbrev tl9:=λl q w=>([(3,(eT l)),(4,(eT q)),(5,(.box 30 [(.row 5080)])),(5080,(dX w))]:List (Nat×Ob))
abbrev tl10:=λl q w=>([(8,(eT l)),(9,(.box 30 [(.row 5144)])),(5144,(.rn 60 2 1 57 2 (List.map (kX Node.enc 1) q) (qE cD.enc w)))]:List (Nat×Ob))
abbrev afl:=λl q=>([(10000,(fV l)),(20001,(qc q))]:List (Nat×Ob))
abbrev tl12:=λl q w z B D F G I=>([(2,(eL l)),(3,(eT q)),(4,(eT w)),(14,(.box 184 [(eU z),(dW B),(.row 5210),(.row 5211)])),(5208,(yu D)),(5209,(rI F)),(5210,(eB G)),(5211,(eB I))]:List (Nat×Ob))
abbrev tl13:=λl q=>([(10000,(.box 24 [(.row 20003)])),(10001,(.box 24 [(.row 20004)])),(10002,(.box 237 [(.cl 171 [.p 10000, .p 10001, .p 10002])])),(20003,(dQ l)),(20004,(dQ q))]:List (Nat×Ob))
abbrev tl14:=λl q w z B D F G I=>([(6,(Da l)),(8,(eT q)),(10,(.box 66 [(tF w),(dP z),(.row 5498)])),(5161,(dX B)),(5162,(y5 D)),(5497,(dX F)),(5498,(y5 G)),(10000,(fV I))]:List (Nat×Ob))
abbrev tl15:=λl q w z=>([(2,(eL l)),(3,(eT q)),(4,(eT w)),(6,(eB z))]:List (Nat×Ob))
def jb {T:Type} {E:T->Out} [fB E] {raw:Option Out} {t:Option T} [i:Im E t raw] {f:Nat} {args:List SV} {cM:List (Nat×Ob)} (l:abM P w6 H gT f args cM=raw:=by kernel_rfl) (q:gT f args cM=none:=by rfl):Lt (dec E (run P H gT f args cM)) t:=
 λw=>qT w i.p l λh=>rC (C:=w6) q h
def jh {T:Type} {E:T->Out} [fB E] {raw:Option Out} {t:Option T} [i:Im E t raw] {f key:Nat} {names:List Nat} {l:List (Nat×SV)} {q:List (Nat×Ob)} (w:Xh P w6 H gT f key names l q=raw:=by kernel_rfl):Lt (dec E (yK P w6 H gT f key names l q)) t:=
 λz=>qT z i.p w λh=>kS h
