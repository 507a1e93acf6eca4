/- The types and codecs of the program, by program (decomp8.py). -/
import Derived.Test.YtacapiamkgkkjaaGreatDoorProg
import Derived.Test.YtacapiamkgkkjaaGreatDoorAmP
import Derived.Test.YtacapiamkgkkjaaGreatDoorAmI
import Derived.KernelRfl
set_option linter.all false
set_option maxRecDepth 100000
namespace Go.Proofs.YtacapiamkgkkjaaGreatDoor.cl
open Go Go.AM
noncomputable abbrev P:Program:=Tryz.prog
theorem WQ {l q:Type} {f:l->q} (h:∀a b,f a=f b->a=b:=by
 intro a b h
 (iterate 6 (try injections))<;>first
 |assumption
 |exact map_inj eO.inj _ _ ‹_›
 |(cases a;cases b;congr<;>first|assumption|exact map_inj eO.inj _ _ ‹_› |exact za ‹_› ‹_›)):eO f:=⟨h⟩
theorem mkK {K:ux} [DecidableEq K.T] (h:∀a b,wL (K.enc a) (K.enc b)=some (decide (a=b)):=by
 intro a b;simp only[wL,fZ]
 first|rfl|(congr 1;first|rfl|(rw[iF];simp))):HG K:=⟨λa b=>⟨inferInstance,h a b⟩⟩
def xV (l:List UInt8):List (List UInt8)->List UInt8
 |[]=>[]
 |[x]=>x
 |x::xs=>x++l++xV l xs
abbrev EntW:=List UInt8×Nat
def EntW.enc (p:EntW):List AV:=[.str p.1, .dy 1 (bif Nat.beq p.2 0 then[] else[[.int .u64 (p.2:Int)]])]
def strs:List (List AV)->Option (List (List UInt8))
 |[]=>some []
 |[.str s]::l=>(strs l).map (s:: ·)
 |_=>none
def AF:List (List AV)->Option (List (Int×Int))
 |[]=>some []
 |[.int .i64 f, .int .i64 t]::l=>(AF l).map ((f,t):: ·)
 |_=>none
def QZ (p:Int×Int):List AV:=[.int .i64 p.1, .int .i64 p.2]
def UN (p q:Int×Int):Bool:=decide (p.1<q.1)
def AE:List (Int×Int)->Bool
 |[]=>true
 |x::l=>l.all (λy=>UN x y||UN y x)&&AE l
def Lx (a b:List UInt8):Int:=bif Op.bytesLess a b then-1 else bif a==b then 0 else 1
def adk:List AV:=[.str [], .int .i64 0, .str [], .dy 1 [], .dy 4 [], .dy 4 []]
abbrev V3:ux:=⟨Int,AV.int .i64⟩
instance:eO V3.enc:=WQ
instance:HG V3:=mkK
abbrev V4:ux:=⟨Bool,AV.bool⟩
instance:eO V4.enc:=WQ
instance:HG V4:=mkK
abbrev V9:ux:=⟨List UInt8,AV.str⟩
instance:eO V9.enc:=WQ
instance:HG V9:=mkK
structure ec where
 bM:List UInt8
 Value:List UInt8
 deriving Inhabited
def ec.enc (x:ec):List AV:=[.str x.bM, .str x.Value]
instance:eO ec.enc:=WQ
structure aC where
 Name:List UInt8
 dQ:List (List UInt8)
 bN:List ec
 deriving Inhabited
def aC.enc (x:aC):List AV:=[.str x.Name, .dy 1 (List.map oV x.dQ), .dy 2 (List.map ec.enc x.bN)]
instance:eO aC.enc:=WQ
inductive bV where
 |mk (Op:Int) (Name:List UInt8) (Path:List (List UInt8)) (Kids:List bV)
def bV.Op:bV->Int
 | .mk x _ _ _=>x
def bV.Name:bV->List UInt8
 | .mk _ x _ _=>x
def bV.Path:bV->List (List UInt8)
 | .mk _ _ x _=>x
def bV.Kids:bV->List bV
 | .mk _ _ _ x=>x
mutual
def bV.iX:bV->List AV
 | .mk a b c d=>[.int .i64 a, .str b, .dy 1 (List.map oV c), .dy 4 (bV.Ej d)]
def bV.Ej:List bV->List (List AV)
 |[]=>[]
 |x::l=>bV.iX x::bV.Ej l
end
def bV.enc (x:bV):List AV:=[.int .i64 x.Op, .str x.Name, .dy 1 (List.map oV x.Path), .dy 4 (List.map bV.iX x.Kids)]
instance:Inhabited bV:=⟨.mk 0 [] [] []⟩
mutual
theorem bV.injX:∀(a b:bV),bV.iX a=bV.iX b->a=b
 | .mk a0 a1 a2 a3, .mk b0 b1 b2 b3,h=>by simp only[bV.iX,cg,AV.int.injEq,AV.str.injEq,AV.bool.injEq,AV.dy.injEq,cR,c9] at h;obtain⟨h0,h1,h2,h3⟩:=h;replace h3:=bV.injXs _ _ h3;replace h2:=map_inj eO.inj _ _ h2;subst h0 h1 h2 h3;rfl
theorem bV.injXs:∀(a b:List bV),bV.Ej a=bV.Ej b->a=b
 |[],[],_=>rfl
 |[],_::_,h=>by simp[bV.Ej] at h
 |_::_,[],h=>by simp[bV.Ej] at h
 |x::l,y::m,h=>by simp only[bV.Ej,cg] at h;rw[bV.injX x y h.1,bV.injXs l m h.2]
end
def bV.Ra (l:List bV):bV.Ej l=l.map bV.iX:=by induction l with
 |nil=>rfl
 |cons x l q=>simp[bV.Ej,q]
def bV.mj:bV.iX=bV.enc:=by funext x;cases x;simp only[bV.iX,bV.enc,bV.Ra];rfl
instance:eO bV.iX:=⟨bV.injX⟩
instance:eO bV.enc:=⟨λa b h=>bV.injX a b (by rw[bV.mj];exact h)⟩
structure Def where
 Name:List UInt8
 jR:bV
 eP:List bV
 deriving Inhabited
def Def.enc (x:Def):List AV:=[.str x.Name, .int .i64 x.jR.Op, .str x.jR.Name, .dy 1 (List.map oV x.jR.Path), .dy 4 (List.map bV.iX x.jR.Kids), .dy 4 (List.map bV.iX x.eP)]
def Def.inj:∀(a b:Def),Def.enc a=Def.enc b->a=b:=by intro a b h;obtain⟨O,L,F⟩:=a;obtain⟨G,q,w,l⟩:=L;obtain⟨Q,N,I⟩:=b;obtain⟨K,B,D,z⟩:=N;simp only[Def.enc,cg,AV.int.injEq,AV.str.injEq,AV.bool.injEq,AV.dy.injEq,AV.mp.injEq,cR,c9] at h;obtain⟨V,h1,h2,R,S,U⟩:=h;replace R:=map_inj eO.inj _ _ R;replace S:=map_inj eO.inj _ _ S;replace U:=map_inj eO.inj _ _ U;change O=Q at V;change G=K at h1;change q=B at h2;change w=D at R;change l=z at S;change F=I at U;subst V h1 h2 R S U;rfl
instance:eO Def.enc:=⟨Def.inj⟩
structure cB where
 bM:Int
 To:Int
 deriving Inhabited
def cB.enc (x:cB):List AV:=[.int .i64 x.bM, .int .i64 x.To]
instance:eO cB.enc:=WQ
structure Node where
 ee:Int
 cu:List cB
 deriving Inhabited
def Node.enc (x:Node):List AV:=[.int .i64 x.ee, .dy 2 (List.map cB.enc x.cu)]
instance:eO Node.enc:=WQ
structure FSt where
 az:List Node
 deriving Inhabited
def FSt.enc (x:FSt):List AV:=[.dy 2 (List.map Node.enc x.az)]
instance:eO FSt.enc:=WQ
structure Case where
 Decls:List aC
 Defs:List Def
 X:bV
 Y:bV
 F:FSt
 deriving Inhabited
def Case.enc (x:Case):List AV:=[.dy 3 (List.map aC.enc x.Decls), .dy 6 (List.map Def.enc x.Defs), .int .i64 x.X.Op, .str x.X.Name, .dy 1 (List.map oV x.X.Path), .dy 4 (List.map bV.iX x.X.Kids), .int .i64 x.Y.Op, .str x.Y.Name, .dy 1 (List.map oV x.Y.Path), .dy 4 (List.map bV.iX x.Y.Kids), .dy 2 (List.map Node.enc x.F.az)]
def Case.inj:∀(a b:Case),Case.enc a=Case.enc b->a=b:=by intro a b h;obtain⟨w,V,aX,aY,aF⟩:=a;obtain⟨aXOp,B,D,z⟩:=aX;obtain⟨aYOp,G,I,F⟩:=aY;obtain⟨l⟩:=aF;obtain⟨K,bDefs,bX,bY,bF⟩:=b;obtain⟨bXOp,N,O,L⟩:=bX;obtain⟨bYOp,R,S,Q⟩:=bY;obtain⟨q⟩:=bF;simp only[Case.enc,cg,AV.int.injEq,AV.str.injEq,AV.bool.injEq,AV.dy.injEq,AV.mp.injEq,cR,c9] at h;obtain⟨h0,h1,h2,h3,h4,h5,h6,h7,h8,h9,U⟩:=h;replace h0:=map_inj eO.inj _ _ h0;replace h1:=map_inj eO.inj _ _ h1;replace h4:=map_inj eO.inj _ _ h4;replace h5:=map_inj eO.inj _ _ h5;replace h8:=map_inj eO.inj _ _ h8;replace h9:=map_inj eO.inj _ _ h9;replace U:=map_inj eO.inj _ _ U;change w=K at h0;change V=bDefs at h1;change aXOp=bXOp at h2;change B=N at h3;change D=O at h4;change z=L at h5;change aYOp=bYOp at h6;change G=R at h7;change I=S at h8;change F=Q at h9;change l=q at U;subst h0 h1 h2 h3 h4 h5 h6 h7 h8 h9 U;rfl
instance:eO Case.enc:=⟨Case.inj⟩
structure fL where
 bM:Int
 Value:Int
 deriving Inhabited
def fL.enc (x:fL):List AV:=[.int .i64 x.bM, .int .i64 x.Value]
instance:eO fL.enc:=WQ
structure fG where
 Name:List UInt8
 Code:List Int
 dQ:List Int
 bN:List fL
 deriving Inhabited
def fG.enc (x:fG):List AV:=[.str x.Name, .dy 1 (List.map (dX .u64) x.Code), .dy 1 (List.map (dX .i64) x.dQ), .dy 2 (List.map fL.enc x.bN)]
instance:eO fG.enc:=WQ
structure cU where
 Name:List UInt8
 Intro:Int
 deriving Inhabited
def cU.enc (x:cU):List AV:=[.str x.Name, .int .i64 x.Intro]
instance:eO cU.enc:=WQ
structure aU where
 Types:List fG
 bN:List cU
 deriving Inhabited
def aU.enc (x:aU):List AV:=[.dy 4 (List.map fG.enc x.Types), .dy 2 (List.map cU.enc x.bN)]
def aU.inj:∀(a b:aU),aU.enc a=aU.enc b->a=b:=by intro a b h;obtain⟨q,l⟩:=a;obtain⟨z,w⟩:=b;simp only[aU.enc,cg,AV.int.injEq,AV.str.injEq,AV.bool.injEq,AV.dy.injEq,AV.mp.injEq,cR,c9] at h;obtain⟨B,D⟩:=h;replace B:=map_inj eO.inj _ _ B;replace D:=map_inj eO.inj _ _ D;change q=z at B;change l=w at D;subst B D;rfl
instance:eO aU.enc:=⟨aU.inj⟩
structure Template where
 Name:List UInt8
 jR:FSt
 eP:List FSt
 deriving Inhabited
def Template.enc (x:Template):List AV:=[.str x.Name, .dy 2 (List.map Node.enc x.jR.az), .dy 1 (List.map FSt.enc x.eP)]
def Template.inj:∀(a b:Template),Template.enc a=Template.enc b->a=b:=by intro a b h;obtain⟨F,B,w⟩:=a;obtain⟨l⟩:=B;obtain⟨G,D,z⟩:=b;obtain⟨q⟩:=D;simp only[Template.enc,cg,AV.int.injEq,AV.str.injEq,AV.bool.injEq,AV.dy.injEq,AV.mp.injEq,cR,c9] at h;obtain⟨L,I,K⟩:=h;replace I:=map_inj eO.inj _ _ I;replace K:=map_inj eO.inj _ _ K;change F=G at L;change l=q at I;change w=z at K;subst L I K;rfl
instance:eO Template.enc:=⟨Template.inj⟩
structure tag where
 Name:List UInt8
 Path:List Int
 deriving Inhabited
def tag.enc (x:tag):List AV:=[.str x.Name, .dy 1 (List.map (dX .i64) x.Path)]
instance:eO tag.enc:=WQ
structure fJ where
 Name:List UInt8
 Code:List Int
 deriving Inhabited
def fJ.enc (x:fJ):List AV:=[.str x.Name, .dy 1 (List.map (dX .u64) x.Code)]
instance:eO fJ.enc:=WQ
structure state where
 F:FSt
 OK:Bool
 Tags:List tag
 deriving Inhabited
def state.enc (x:state):List AV:=[.dy 2 (List.map Node.enc x.F.az), .bool x.OK, .dy 2 (List.map tag.enc x.Tags)]
def state.inj:∀(a b:state),state.enc a=state.enc b->a=b:=by intro a b h;obtain⟨K,F,w⟩:=a;obtain⟨l⟩:=K;obtain⟨L,G,z⟩:=b;obtain⟨q⟩:=L;simp only[state.enc,cg,AV.int.injEq,AV.str.injEq,AV.bool.injEq,AV.dy.injEq,AV.mp.injEq,cR,c9] at h;obtain⟨B,I,D⟩:=h;replace B:=map_inj eO.inj _ _ B;replace D:=map_inj eO.inj _ _ D;change l=q at B;change F=G at I;change w=z at D;subst B I D;rfl
instance:eO state.enc:=⟨state.inj⟩
structure world where
 h:aU
 list:Int
 cons:Int
 null:Int
 dlist:Int
 first:Int
 rest:Int
 head:Int
 last:Int
 deriving Inhabited
def world.enc (x:world):List AV:=[.dy 4 (List.map fG.enc x.h.Types), .dy 2 (List.map cU.enc x.h.bN), .int .i64 x.list, .int .i64 x.cons, .int .i64 x.null, .int .i64 x.dlist, .int .i64 x.first, .int .i64 x.rest, .int .i64 x.head, .int .i64 x.last]
def world.inj:∀(a b:world),world.enc a=world.enc b->a=b:=by intro a b h;obtain⟨ah,N,I,O,B,D,Q,K,L⟩:=a;obtain⟨q,l⟩:=ah;obtain⟨bh,V,R,bnull,F,G,brest,S,U⟩:=b;obtain⟨z,w⟩:=bh;simp only[world.enc,cg,AV.int.injEq,AV.str.injEq,AV.bool.injEq,AV.dy.injEq,AV.mp.injEq,cR,c9] at h;obtain⟨h0,h1,h2,h3,h4,h5,h6,h7,h8,h9⟩:=h;replace h0:=map_inj eO.inj _ _ h0;replace h1:=map_inj eO.inj _ _ h1;change q=z at h0;change l=w at h1;change N=V at h2;change I=R at h3;change O=bnull at h4;change B=F at h5;change D=G at h6;change Q=brest at h7;change K=S at h8;change L=U at h9;subst h0 h1 h2 h3 h4 h5 h6 h7 h8 h9;rfl
instance:eO world.enc:=⟨world.inj⟩
structure dL where
 a0:Int
 a1:Int
 deriving Inhabited
def dL.enc (x:dL):List AV:=[.int .i64 x.a0, .int .i64 x.a1]
instance:eO dL.enc:=WQ
abbrev C116:FC:=⟨aC,aC.enc⟩
abbrev C62:FC:=⟨Def,Def.enc⟩
abbrev C9:FC:=⟨List UInt8,oV⟩
abbrev C27:FC:=⟨bV,bV.enc⟩
abbrev C60:FC:=⟨Node,Node.enc⟩
abbrev C111:FC:=⟨fG,fG.enc⟩
abbrev C165:FC:=⟨cU,cU.enc⟩
abbrev C66:FC:=⟨Template,Template.enc⟩
abbrev C57:FC:=⟨cB,cB.enc⟩
abbrev C30:FC:=⟨FSt,FSt.enc⟩
abbrev C190:FC:=⟨tag,tag.enc⟩
abbrev C109:FC:=⟨List (fL),(mJ 2 fL.enc)⟩
abbrev C106:FC:=⟨fJ,fJ.enc⟩
abbrev C244:FC:=⟨Int,(dX .u64)⟩
abbrev C3:FC:=⟨Int,(dX .i64)⟩
abbrev C154:FC:=⟨fL,fL.enc⟩
abbrev C167:FC:=⟨ec,ec.enc⟩
abbrev C104:FC:=⟨List (Int),(mJ 1 (dX .u64))⟩
abbrev C107:FC:=⟨List (Int),(mJ 1 (dX .i64))⟩
abbrev C58:FC:=⟨List (cB),(mJ 2 cB.enc)⟩
abbrev C4:FC:=⟨Bool,VU⟩
abbrev C275:FC:=⟨dL,dL.enc⟩
abbrev C5:FC:=⟨Int,(dX .u8)⟩
abbrev Cp:ux:=⟨List Int,pL 1 (dX .i64)⟩
abbrev Q0:=pA aU.enc
abbrev Q1:=pP (pL 3 Template.enc) (AV.bool)
abbrev Q2:=AV.bool
abbrev Q3:=pP (pA FSt.enc) (AV.int .i64)
abbrev Q4:=pP (pA aU.enc) (AV.int .i64)
abbrev Q5:=pL 3 aC.enc
abbrev Q6:=pP (pL 3 Template.enc) (AV.int .i64)
abbrev Q7:=pP (pA FSt.enc) (AV.bool)
abbrev Q8:=AV.int .i64
abbrev Q9:=pP (pL 1 (mJ 2 fL.enc)) (AV.int .i64)
abbrev Q10:=pP (pL 2 fJ.enc) (AV.int .i64)
abbrev Q11:=pA aC.enc
abbrev Q12:=pL 1 (dX .i64)
abbrev Q13:=pL 1 oV
abbrev Q14:=pP (pL 2 cU.enc) (AV.int .i64)
abbrev Q15:=pP (pA Template.enc) (AV.int .i64)
abbrev Q16:=pP (AV.int .i64) (AV.bool)
abbrev Q17:=pP (pL 1 (dX .i64)) (AV.bool)
abbrev Q18:=pL 1 (dX .u64)
abbrev Q19:=pL 1 (mJ 1 (dX .u64))
abbrev Q20:=pW 3 1 (dX .i64)
abbrev Q21:=pA FSt.enc
abbrev Q22:=pP (AV.str) (AV.bool)
abbrev Q23:=pP (pL 1 (dX .u64)) (AV.bool)
abbrev Q24:=AV.str
abbrev Q25:=pP (pA world.enc) (AV.int .i64)
abbrev Q26:=pU
abbrev Q27:=pW 60 2 Node.enc
abbrev Q28:=pL 2 Node.enc
abbrev Q29:=pP (pL 1 (dX .u64)) (AV.int .i64)
abbrev Q30:=AV.int .u64
abbrev Q31:=pF 305 cB.enc
abbrev Q32:=pW 57 2 cB.enc
abbrev R497.T:Type:=Bool
abbrev R403.T:Type:=aU
abbrev R498.T:Type:=(List Template)×Bool
abbrev R499.T:Type:=Bool
abbrev R500.T:Type:=FSt×Int
abbrev R501.T:Type:=FSt×Int
abbrev R407.T:Type:=Bool
abbrev R502.T:Type:=Bool
abbrev R504.T:Type:=(List Template)×Int
abbrev R332.T:Type:=aU×Int
abbrev R327.T:Type:=List aC
abbrev R503.T:Type:=Bool
abbrev R506.T:Type:=FSt×Int
abbrev R507.T:Type:=Bool
abbrev R441.T:Type:=FSt×Bool
abbrev R418.T:Type:=Int
abbrev R523.T:Type:=Bool
abbrev R528.T:Type:=Int×Bool
abbrev R512.T:Type:=Int
abbrev R527.T:Type:=Template×Int
abbrev R526.T:Type:=Int
abbrev R515.T:Type:=Int
abbrev R323.T:Type:=(List (List fL))×Int
abbrev R15.T:Type:=(List fJ)×Int
abbrev R28.T:Type:=List Int
abbrev R320.T:Type:=(List cU)×Int
abbrev R351.T:Type:=aC
abbrev R509.T:Type:=Bool
abbrev R510.T:Type:=Int
abbrev R511.T:Type:=Bool
abbrev R513.T:Type:=Bool
abbrev R514.T:Type:=Bool
abbrev R434.T:Type:=FSt×Bool
abbrev R364.T:Type:=Int
abbrev R516.T:Type:=Bool
abbrev R365.T:Type:=Int
abbrev R521.T:Type:=List Int
abbrev R477.T:Type:=Bool
abbrev R471.T:Type:=Bool
abbrev R432.T:Type:=List Int
abbrev R110.T:Type:=Bool
abbrev R558.T:Type:=Int
abbrev R540.T:Type:=Int×Bool
abbrev R556.T:Type:=Int
abbrev R539.T:Type:=Int
abbrev R546.T:Type:=List (List UInt8)
abbrev R547.T:Type:=Bool
abbrev R318.T:Type:=Int
abbrev R345.T:Type:=List (List UInt8)
abbrev R370.T:Type:=(List Int)×Bool
abbrev R19.T:Type:=Int
abbrev R32.T:Type:=Int
abbrev R52.T:Type:=List (List UInt8)
abbrev R53.T:Type:=List Int
abbrev R54.T:Type:=List (List Int)
abbrev R55.T:Type:=List UInt8
abbrev R56.T:Type:=Bool
abbrev R25.T:Type:=Bool
abbrev R357.T:Type:=(List UInt8)×Bool
abbrev R358.T:Type:=Int
abbrev R524.T:Type:=Int
abbrev R525.T:Type:=Int
abbrev R352.T:Type:=Int
abbrev R529.T:Type:=FSt×Int
abbrev R363.T:Type:=Int
abbrev R533.T:Type:=Bool
abbrev R560.T:Type:=Bool
abbrev R530.T:Type:=Bool
abbrev R531.T:Type:=Bool
abbrev R532.T:Type:=Bool
abbrev R557.T:Type:=Bool
abbrev R534.T:Type:=List Int
abbrev R535.T:Type:=(List Int)×Bool
abbrev R461.T:Type:=Bool
abbrev R462.T:Type:=List Node
abbrev R340.T:Type:=Bool
abbrev R536.T:Type:=FSt×Bool
abbrev R537.T:Type:=FSt×Bool
abbrev R336.T:Type:=Int×Bool
abbrev R356.T:Type:=Int×Bool
abbrev R140.T:Type:=Bool
abbrev R555.T:Type:=Bool
abbrev R346.T:Type:=Int
abbrev R98.T:Type:=List (List UInt8)
abbrev R373.T:Type:=(List UInt8)×Bool
abbrev R61.T:Type:=List Int
abbrev R60.T:Type:=List Int
abbrev R57.T:Type:=Bool
abbrev R70.T:Type:=Int
abbrev R71.T:Type:=Int
abbrev R72.T:Type:=Int
abbrev R73.T:Type:=List (List UInt8)
abbrev R99.T:Type:=List (List UInt8)
abbrev R37.T:Type:=Bool
abbrev R100.T:Type:=(List Int)×Int
abbrev R101.T:Type:=Bool
abbrev R102.T:Type:=Bool
abbrev R103.T:Type:=Bool
abbrev R104.T:Type:=List (List UInt8)
abbrev R105.T:Type:=Int
abbrev R65.T:Type:=Bool
abbrev R538.T:Type:=Bool
abbrev R426.T:Type:=FSt
abbrev R425.T:Type:=FSt
abbrev R438.T:Type:=FSt×Bool
abbrev R353.T:Type:=Int
abbrev R374.T:Type:=Bool
abbrev R541.T:Type:=FSt×Int
abbrev R551.T:Type:=Int
abbrev R543.T:Type:=Int
abbrev R542.T:Type:=FSt×Bool
abbrev R460.T:Type:=List Int
abbrev R472.T:Type:=Bool
abbrev R355.T:Type:=Int×Bool
abbrev R440.T:Type:=FSt×Bool
abbrev R430.T:Type:=FSt
abbrev R544.T:Type:=FSt
abbrev R354.T:Type:=Int×Bool
abbrev R159.T:Type:=Bool
abbrev R160.T:Type:=Bool
abbrev R372.T:Type:=Bool
abbrev R106.T:Type:=Int
abbrev R111.T:Type:=Int
abbrev R112.T:Type:=Bool
abbrev R137.T:Type:=List (List UInt8)
abbrev R138.T:Type:=List (List UInt8)
abbrev R139.T:Type:=List Int
abbrev R108.T:Type:=List Int
abbrev R545.T:Type:=Bool
abbrev R554.T:Type:=Bool
abbrev R433.T:Type:=FSt×Bool
abbrev R442.T:Type:=Unit
abbrev R443.T:Type:=Bool
abbrev R444.T:Type:=FSt
abbrev R549.T:Type:=world×Int
abbrev R550.T:Type:=Bool
abbrev R552.T:Type:=FSt×Int
abbrev R437.T:Type:=FSt×Int
abbrev R335.T:Type:=Int×Bool
abbrev R448.T:Type:=List Node
abbrev R451.T:Type:=List Int
abbrev R450.T:Type:=List Int
abbrev R449.T:Type:=List Int
abbrev R452.T:Type:=(List Int)×Bool
abbrev R453.T:Type:=FSt
abbrev R166.T:Type:=Bool
abbrev R167.T:Type:=Bool
abbrev R486.T:Type:=Bool
abbrev R485.T:Type:=Int
abbrev R487.T:Type:=Int
abbrev R339.T:Type:=Bool
abbrev R456.T:Type:=Int
abbrev R457.T:Type:=FSt
abbrev R29.T:Type:=List Int
abbrev R371.T:Type:=Bool
abbrev R31.T:Type:=Bool
abbrev R491.T:Type:=Int×Bool
abbrev R476.T:Type:=Int×Bool
abbrev R436.T:Type:=FSt
abbrev R63.T:Type:=Bool
abbrev R488.T:Type:=Unit
abbrev R490.T:Type:=List cB
abbrev R489.T:Type:=List cB
abbrev R68.T:Type:=List Int
abbrev R455.T:Type:=Unit
abbrev R463.T:Type:=List cB
abbrev R107.T:Type:=Int
def elems:List (Nat×FC):=[(116,C116),(62,C62),(9,C9),(27,C27),(60,C60),(111,C111),(165,C165),(66,C66),(57,C57),(30,C30),(190,C190),(109,C109),(106,C106),(244,C244),(3,C3),(154,C154),(167,C167),(104,C104),(107,C107),(58,C58),(4,C4),(275,C275),(5,C5)]
def vals:List (Nat×ux):=[(3,V3),(4,V4),(9,V9),(107,Cp)]
def ress:List (Nat×ux):=[(3,⟨_,Q2⟩),(5,⟨_,Q0⟩),(6,⟨_,Q1⟩),(7,⟨_,Q2⟩),(8,⟨_,Q3⟩),(9,⟨_,Q3⟩),(10,⟨_,Q2⟩),(11,⟨_,Q2⟩),(13,⟨_,Q6⟩),(15,⟨_,Q4⟩),(16,⟨_,Q5⟩),(17,⟨_,Q2⟩),(21,⟨_,Q3⟩),(22,⟨_,Q2⟩),(24,⟨_,Q7⟩),(25,⟨_,Q8⟩),(26,⟨_,Q2⟩),(29,⟨_,Q16⟩),(32,⟨_,Q8⟩),(33,⟨_,Q15⟩),(34,⟨_,Q8⟩),(35,⟨_,Q8⟩),(37,⟨_,Q9⟩),(38,⟨_,Q10⟩),(39,⟨_,Q12⟩),(40,⟨_,Q14⟩),(41,⟨_,Q11⟩),(42,⟨_,Q2⟩),(43,⟨_,Q8⟩),(44,⟨_,Q2⟩),(46,⟨_,Q2⟩),(47,⟨_,Q2⟩),(48,⟨_,Q7⟩),(49,⟨_,Q8⟩),(50,⟨_,Q2⟩),(51,⟨_,Q8⟩),(56,⟨_,Q12⟩),(58,⟨_,Q2⟩),(59,⟨_,Q2⟩),(60,⟨_,Q12⟩),(61,⟨_,Q2⟩),(65,⟨_,Q8⟩),(74,⟨_,Q16⟩),(75,⟨_,Q8⟩),(78,⟨_,Q8⟩),(79,⟨_,Q13⟩),(81,⟨_,Q2⟩),(82,⟨_,Q8⟩),(83,⟨_,Q13⟩),(84,⟨_,Q23⟩),(85,⟨_,Q8⟩),(86,⟨_,Q8⟩),(87,⟨_,Q13⟩),(88,⟨_,Q18⟩),(89,⟨_,Q19⟩),(90,⟨_,Q24⟩),(91,⟨_,Q2⟩),(92,⟨_,Q2⟩),(93,⟨_,Q22⟩),(94,⟨_,Q8⟩),(95,⟨_,Q8⟩),(96,⟨_,Q8⟩),(99,⟨_,Q8⟩),(100,⟨_,Q3⟩),(101,⟨_,Q8⟩),(102,⟨_,Q2⟩),(103,⟨_,Q2⟩),(104,⟨_,Q2⟩),(105,⟨_,Q2⟩),(106,⟨_,Q2⟩),(107,⟨_,Q2⟩),(108,⟨_,Q12⟩),(109,⟨_,Q17⟩),(110,⟨_,Q2⟩),(111,⟨_,Q27⟩),(112,⟨_,Q2⟩),(113,⟨_,Q7⟩),(114,⟨_,Q7⟩),(115,⟨_,Q16⟩),(116,⟨_,Q16⟩),(117,⟨_,Q2⟩),(124,⟨_,Q2⟩),(125,⟨_,Q8⟩),(126,⟨_,Q13⟩),(127,⟨_,Q22⟩),(128,⟨_,Q18⟩),(129,⟨_,Q18⟩),(130,⟨_,Q2⟩),(131,⟨_,Q8⟩),(132,⟨_,Q8⟩),(133,⟨_,Q8⟩),(134,⟨_,Q13⟩),(135,⟨_,Q13⟩),(136,⟨_,Q2⟩),(137,⟨_,Q29⟩),(138,⟨_,Q2⟩),(139,⟨_,Q2⟩),(140,⟨_,Q2⟩),(141,⟨_,Q13⟩),(142,⟨_,Q8⟩),(143,⟨_,Q2⟩),(144,⟨_,Q2⟩),(147,⟨_,Q21⟩),(148,⟨_,Q21⟩),(152,⟨_,Q7⟩),(153,⟨_,Q8⟩),(154,⟨_,Q2⟩),(155,⟨_,Q3⟩),(156,⟨_,Q8⟩),(157,⟨_,Q8⟩),(158,⟨_,Q7⟩),(159,⟨_,Q20⟩),(160,⟨_,Q2⟩),(161,⟨_,Q16⟩),(162,⟨_,Q7⟩),(163,⟨_,Q21⟩),(164,⟨_,Q21⟩),(165,⟨_,Q16⟩),(166,⟨_,Q2⟩),(167,⟨_,Q2⟩),(176,⟨_,Q2⟩),(177,⟨_,Q30⟩),(178,⟨_,Q8⟩),(179,⟨_,Q2⟩),(180,⟨_,Q13⟩),(181,⟨_,Q13⟩),(182,⟨_,Q12⟩),(183,⟨_,Q18⟩),(184,⟨_,Q2⟩),(185,⟨_,Q2⟩),(186,⟨_,Q7⟩),(191,⟨_,Q26⟩),(192,⟨_,Q2⟩),(193,⟨_,Q21⟩),(194,⟨_,Q25⟩),(195,⟨_,Q2⟩),(196,⟨_,Q3⟩),(197,⟨_,Q3⟩),(198,⟨_,Q16⟩),(199,⟨_,Q28⟩),(200,⟨_,Q12⟩),(201,⟨_,Q12⟩),(202,⟨_,Q20⟩),(203,⟨_,Q17⟩),(204,⟨_,Q21⟩),(206,⟨_,Q2⟩),(207,⟨_,Q2⟩),(217,⟨_,Q2⟩),(218,⟨_,Q8⟩),(219,⟨_,Q8⟩),(220,⟨_,Q2⟩),(222,⟨_,Q8⟩),(223,⟨_,Q21⟩),(224,⟨_,Q18⟩),(225,⟨_,Q2⟩),(226,⟨_,Q2⟩),(227,⟨_,Q16⟩),(228,⟨_,Q16⟩),(229,⟨_,Q21⟩),(261,⟨_,Q2⟩),(262,⟨_,Q26⟩),(263,⟨_,Q32⟩),(264,⟨_,Q31⟩),(266,⟨_,Q18⟩),(267,⟨_,Q26⟩),(268,⟨_,Q32⟩),(302,⟨_,Q30⟩)]
abbrev Qj.T:Type:=(List fG)×(List cU)×(List Template)×(List Node)×(List ((List UInt8)×(List Int)))
def Qj:Qj.T->Out:=(λx:(List fG)×(List cU)×(List Template)×(List Node)×(List ((List UInt8)×(List Int)))=>((.gM [.gM [.self 0, .qz,(.self 25000)]],[(25000,(.box 84 [(.pv (.dy 4 (List.map fG.enc x.1))),(.pv (.dy 2 (List.map cU.enc x.2.1))),(.pv (.dy 3 (List.map Template.enc x.2.2.1))),(.row 25001),(.pv (.dy 2 (List.map Node.enc x.2.2.2.1)))])),(25001,(.mp 9 107 (ey V9 Cp x.2.2.2.2).1 (ey V9 Cp x.2.2.2.2).2))]):Out))
instance:eO Qj:=⟨λa b h=>by
 obtain⟨F,G,I,K,L⟩:=a;obtain⟨N,O,Q,R,S⟩:=b;simp only[Qj,bD,cg,AV.gM.injEq,AV.agg.injEq,AV.dy.injEq,AV.int.injEq,AV.bool.injEq,AV.str.injEq,Ob.row.injEq,Ob.rn.injEq,Ob.box.injEq,Ob.mp.injEq,SV.pv.injEq,c9,cR,gC] at h;obtain⟨l,q,w,z,B,D⟩:=h
 rw[map_inj eO.inj _ _ l,map_inj eO.inj _ _ q,map_inj eO.inj _ _ w,map_inj eO.inj _ _ z,za (K:=V9) (V:=Cp) B D]⟩
abbrev DL.T:Type:=Node
def DL:DL.T->Out:=(λx:Node=>((.gM [.gM [.self 0, .qz,(.agg [(.self 25000)])]],[(25000,(.rn 60 2 1 57 2 (List.map (kj Node.enc 1) [x]) (oM cB.enc [some x.cu])))]):Out))
instance:eO DL:=⟨λa b h=>by
 simp only[DL,bD,cg,AV.gM.injEq,AV.agg.injEq,AV.dy.injEq,AV.int.injEq,AV.bool.injEq,AV.str.injEq,Ob.row.injEq,Ob.rn.injEq,Ob.box.injEq,Ob.mp.injEq,SV.pv.injEq,c9,cR,gC] at h;obtain⟨q,l⟩:=h
 exact(List.cons.inj (Vk (sub:=λx=>x.cu) (x:=[_]) (y:=[_]) (λa b l w=>by cases a;cases b;simp_all[kj,Node.enc]) q l)).1⟩
abbrev Ac.T:Type:=(List Node)×Bool×(List tag)
def Ac:Ac.T->Out:=(λx:(List Node)×Bool×(List tag)=>((.gM [.gM [.self 0, .qz,(.agg [(.dy 2 (List.map Node.enc x.1)),(.bool x.2.1),(.self 20000)])]],[(20000,(.row 190 2 (List.map tag.enc x.2.2)))]):Out))
instance:eO Ac:=⟨λa b h=>by
 obtain⟨z,B,D⟩:=a;obtain⟨F,G,I⟩:=b;simp only[Ac,bD,cg,AV.gM.injEq,AV.agg.injEq,AV.dy.injEq,AV.int.injEq,AV.bool.injEq,AV.str.injEq,Ob.row.injEq,Ob.rn.injEq,Ob.box.injEq,Ob.mp.injEq,SV.pv.injEq,c9,cR,gC] at h;obtain⟨l,q,w⟩:=h
 rw[map_inj eO.inj _ _ l,q,map_inj eO.inj _ _ w]⟩
abbrev Ao.T:Type:=(List Node)×Bool×(List tag)
def Ao:Ao.T->Out:=(λx:(List Node)×Bool×(List tag)=>((.gM [.gM [.self 0, .qz,(.agg [(.dy 2 (List.map Node.enc x.1)),(.bool x.2.1),(.self 20000)])]],[(20000,(.row 190 2 (List.map tag.enc x.2.2)))]):Out))
instance:eO Ao:=⟨λa b h=>by
 obtain⟨z,B,D⟩:=a;obtain⟨F,G,I⟩:=b;simp only[Ao,bD,cg,AV.gM.injEq,AV.agg.injEq,AV.dy.injEq,AV.int.injEq,AV.bool.injEq,AV.str.injEq,Ob.row.injEq,Ob.rn.injEq,Ob.box.injEq,Ob.mp.injEq,SV.pv.injEq,c9,cR,gC] at h;obtain⟨l,q,w⟩:=h
 rw[map_inj eO.inj _ _ l,q,map_inj eO.inj _ _ w]⟩
abbrev FF.T:Type:=(List Node)×Bool×(List tag)
def FF:FF.T->Out:=(λx:(List Node)×Bool×(List tag)=>((.gM [.gM [.self 0, .qz,(.agg [(.dy 2 (List.map Node.enc x.1)),(.bool x.2.1),(.self 20000)])]],[(20000,(.row 190 2 (List.map tag.enc x.2.2)))]):Out))
instance:eO FF:=⟨λa b h=>by
 obtain⟨z,B,D⟩:=a;obtain⟨F,G,I⟩:=b;simp only[FF,bD,cg,AV.gM.injEq,AV.agg.injEq,AV.dy.injEq,AV.int.injEq,AV.bool.injEq,AV.str.injEq,Ob.row.injEq,Ob.rn.injEq,Ob.box.injEq,Ob.mp.injEq,SV.pv.injEq,c9,cR,gC] at h;obtain⟨l,q,w⟩:=h
 rw[map_inj eO.inj _ _ l,q,map_inj eO.inj _ _ w]⟩
abbrev Lo.T:Type:=(List Node)×Bool×(List tag)
def Lo:Lo.T->Out:=(λx:(List Node)×Bool×(List tag)=>((.gM [.gM [.self 0, .qz,(.agg [(.dy 2 (List.map Node.enc x.1)),(.bool x.2.1),(.self 20000)])]],[(20000,(.row 190 2 (List.map tag.enc x.2.2)))]):Out))
instance:eO Lo:=⟨λa b h=>by
 obtain⟨z,B,D⟩:=a;obtain⟨F,G,I⟩:=b;simp only[Lo,bD,cg,AV.gM.injEq,AV.agg.injEq,AV.dy.injEq,AV.int.injEq,AV.bool.injEq,AV.str.injEq,Ob.row.injEq,Ob.rn.injEq,Ob.box.injEq,Ob.mp.injEq,SV.pv.injEq,c9,cR,gC] at h;obtain⟨l,q,w⟩:=h
 rw[map_inj eO.inj _ _ l,q,map_inj eO.inj _ _ w]⟩
abbrev DM.T:Type:=(List Node)×Bool×(List tag)
def DM:DM.T->Out:=(λx:(List Node)×Bool×(List tag)=>((.gM [.gM [.self 0, .qz,(.agg [(.dy 2 (List.map Node.enc x.1)),(.bool x.2.1),(.self 20000)])]],[(20000,(.row 190 2 (List.map tag.enc x.2.2)))]):Out))
instance:eO DM:=⟨λa b h=>by
 obtain⟨z,B,D⟩:=a;obtain⟨F,G,I⟩:=b;simp only[DM,bD,cg,AV.gM.injEq,AV.agg.injEq,AV.dy.injEq,AV.int.injEq,AV.bool.injEq,AV.str.injEq,Ob.row.injEq,Ob.rn.injEq,Ob.box.injEq,Ob.mp.injEq,SV.pv.injEq,c9,cR,gC] at h;obtain⟨l,q,w⟩:=h
 rw[map_inj eO.inj _ _ l,q,map_inj eO.inj _ _ w]⟩
abbrev Lp.T:Type:=(List Node)×Bool×(List tag)
def Lp:Lp.T->Out:=(λx:(List Node)×Bool×(List tag)=>((.gM [.gM [.self 0, .qz,(.agg [(.dy 2 (List.map Node.enc x.1)),(.bool x.2.1),(.self 20000)])]],[(20000,(.row 190 2 (List.map tag.enc x.2.2)))]):Out))
instance:eO Lp:=⟨λa b h=>by
 obtain⟨z,B,D⟩:=a;obtain⟨F,G,I⟩:=b;simp only[Lp,bD,cg,AV.gM.injEq,AV.agg.injEq,AV.dy.injEq,AV.int.injEq,AV.bool.injEq,AV.str.injEq,Ob.row.injEq,Ob.rn.injEq,Ob.box.injEq,Ob.mp.injEq,SV.pv.injEq,c9,cR,gC] at h;obtain⟨l,q,w⟩:=h
 rw[map_inj eO.inj _ _ l,q,map_inj eO.inj _ _ w]⟩
abbrev sD.T:Type:=(List Node)×Bool×(List Template)×(List tag)
def sD:sD.T->Out:=(λx:(List Node)×Bool×(List Template)×(List tag)=>((.gM [.gM [.self 0, .qz,(.agg [(.dy 2 (List.map Node.enc x.1)),(.bool x.2.1),(.self 20001)])]],[(10000,(.row 66 3 (List.map Template.enc x.2.2.1))),(20001,(.row 190 2 (List.map tag.enc x.2.2.2)))]):Out))
instance:eO sD:=⟨λa b h=>by
 obtain⟨B,D,F,G⟩:=a;obtain⟨I,K,L,N⟩:=b;simp only[sD,bD,cg,AV.gM.injEq,AV.agg.injEq,AV.dy.injEq,AV.int.injEq,AV.bool.injEq,AV.str.injEq,Ob.row.injEq,Ob.rn.injEq,Ob.box.injEq,Ob.mp.injEq,SV.pv.injEq,c9,cR,gC] at h;obtain⟨l,q,w,z⟩:=h
 rw[map_inj eO.inj _ _ l,q,map_inj eO.inj _ _ w,map_inj eO.inj _ _ z]⟩
abbrev CZ.T:Type:=(List (List UInt8))
def CZ:CZ.T->Out:=(λx:(List (List UInt8))=>((.gM [.gM [.self 0, .qz,(.self 20000)]],[(20000,(.row 9 1 (List.map oV x)))]):Out))
instance:eO CZ:=⟨λa b h=>by
 simp only[CZ,bD,cg,AV.gM.injEq,AV.agg.injEq,AV.dy.injEq,AV.int.injEq,AV.bool.injEq,AV.str.injEq,Ob.row.injEq,Ob.rn.injEq,Ob.box.injEq,Ob.mp.injEq,SV.pv.injEq,c9,cR,gC] at h;have l:=h
 exact map_inj eO.inj _ _ l⟩
abbrev HE.T:Type:=Int×(List Node)
def HE:HE.T->Out:=(λx:Int×(List Node)=>((.gM [.gM [.self 0, .qz,(.gM [(.agg [(.self 25000)]),(.int .i64 x.1)])]],[(25000,(.rn 60 2 1 57 2 (List.map (kj Node.enc 1) x.2) (oM cB.enc (List.map (λx=>some x.cu) x.2))))]):Out))
instance:eO HE:=⟨λa b h=>by
 obtain⟨z,B⟩:=a;obtain⟨D,F⟩:=b;simp only[HE,bD,cg,AV.gM.injEq,AV.agg.injEq,AV.dy.injEq,AV.int.injEq,AV.bool.injEq,AV.str.injEq,Ob.row.injEq,Ob.rn.injEq,Ob.box.injEq,Ob.mp.injEq,SV.pv.injEq,c9,cR,gC] at h;obtain⟨w,l,q⟩:=h
 rw[w,Vk (λa b l q=>by cases a;cases b;simp_all[kj,Node.enc]) l q]⟩
abbrev wm.T:Type:=(List Node)×Bool×(List Template)×(List tag)
def wm:wm.T->Out:=(λx:(List Node)×Bool×(List Template)×(List tag)=>((.gM [.gM [.self 0, .qz,(.agg [(.dy 2 (List.map Node.enc x.1)),(.bool x.2.1),(.self 20001)])]],[(10000,(.row 66 3 (List.map Template.enc x.2.2.1))),(20001,(.row 190 2 (List.map tag.enc x.2.2.2)))]):Out))
instance:eO wm:=⟨λa b h=>by
 obtain⟨B,D,F,G⟩:=a;obtain⟨I,K,L,N⟩:=b;simp only[wm,bD,cg,AV.gM.injEq,AV.agg.injEq,AV.dy.injEq,AV.int.injEq,AV.bool.injEq,AV.str.injEq,Ob.row.injEq,Ob.rn.injEq,Ob.box.injEq,Ob.mp.injEq,SV.pv.injEq,c9,cR,gC] at h;obtain⟨l,q,w,z⟩:=h
 rw[map_inj eO.inj _ _ l,q,map_inj eO.inj _ _ w,map_inj eO.inj _ _ z]⟩
abbrev Nd.T:Type:=(List Node)
def Nd:Nd.T->Out:=(λx:(List Node)=>((.gM [.gM [.self 0, .qz,(.self 20000)]],[(20000,(.row 60 2 (List.map Node.enc x)))]):Out))
instance:eO Nd:=⟨λa b h=>by
 simp only[Nd,bD,cg,AV.gM.injEq,AV.agg.injEq,AV.dy.injEq,AV.int.injEq,AV.bool.injEq,AV.str.injEq,Ob.row.injEq,Ob.rn.injEq,Ob.box.injEq,Ob.mp.injEq,SV.pv.injEq,c9,cR,gC] at h;have l:=h
 exact map_inj eO.inj _ _ l⟩
abbrev An.T:Type:=(Template×Int)×(List Template)
def An:An.T->Out:=(λx:(Template×Int)×(List Template)=>((Q15 x.1,[(10000, .row 66 3 (List.map Template.enc x.2))]):Out))
instance:eO An:=⟨λa b h=>by
 obtain⟨w,z⟩:=a;obtain⟨B,D⟩:=b;simp only[An,bD,cg,Ob.row.injEq,Ob.mp.injEq,Ob.lp.injEq,Ob.box.injEq,c9,cR] at h;obtain⟨l,q⟩:=h
 rw[eO.inj _ _ l,map_inj eO.inj _ _ q]⟩
abbrev Cv.T:Type:=(FSt×Int)×(List Template)
def Cv:Cv.T->Out:=(λx:(FSt×Int)×(List Template)=>((Q3 x.1,[(10000, .row 66 3 (List.map Template.enc x.2))]):Out))
instance:eO Cv:=⟨λa b h=>by
 obtain⟨w,z⟩:=a;obtain⟨B,D⟩:=b;simp only[Cv,bD,cg,Ob.row.injEq,Ob.mp.injEq,Ob.lp.injEq,Ob.box.injEq,c9,cR] at h;obtain⟨l,q⟩:=h
 rw[eO.inj _ _ l,map_inj eO.inj _ _ q]⟩
def outs:List (Nat×CodO):=[(3000000,⟨_,(EN Q3)⟩),(3004096,⟨Qj.T,Qj⟩),(3008192,⟨DL.T,DL⟩),(3012352,⟨Ac.T,Ac⟩),(3016448,⟨Ao.T,Ao⟩),(3020544,⟨FF.T,FF⟩),(3024640,⟨Lo.T,Lo⟩),(3028736,⟨DM.T,DM⟩),(3032832,⟨Ao.T,Ao⟩),(3036928,⟨DM.T,DM⟩),(3041024,⟨Ac.T,Ac⟩),(3045120,⟨Ao.T,Ao⟩),(3049216,⟨DM.T,DM⟩),(3053312,⟨Ao.T,Ao⟩),(3057408,⟨Lp.T,Lp⟩),(3061504,⟨An.T,An⟩),(3065536,⟨DL.T,DL⟩),(3069696,⟨FF.T,FF⟩),(3073792,⟨Ac.T,Ac⟩),(3077888,⟨Ac.T,Ac⟩),(3081984,⟨Cv.T,Cv⟩),(3086080,⟨Lp.T,Lp⟩),(3090112,⟨DL.T,DL⟩),(3094272,⟨FF.T,FF⟩),(3098368,⟨Ao.T,Ao⟩),(3102464,⟨Ac.T,Ac⟩),(3012416,⟨sD.T,sD⟩),(3106560,⟨Cv.T,Cv⟩),(3110656,⟨CZ.T,CZ⟩),(3114688,⟨DL.T,DL⟩),(3118848,⟨HE.T,HE⟩),(3122944,⟨HE.T,HE⟩),(3127040,⟨CZ.T,CZ⟩),(3028800,⟨wm.T,wm⟩),(3036992,⟨wm.T,wm⟩),(3041088,⟨sD.T,sD⟩),(3049280,⟨wm.T,wm⟩),(3131136,⟨CZ.T,CZ⟩),(3073856,⟨sD.T,sD⟩),(3077952,⟨sD.T,sD⟩),(3135232,⟨CZ.T,CZ⟩),(3139328,⟨Nd.T,Nd⟩),(3102528,⟨sD.T,sD⟩)]
def wj:lH:={ out:=GX outs,elem:=GX elems,val:=GX vals,res:=GX ress }
def dG:List Nat:=[10000,10001,10002,10003,10004,10005,10006,10007,10008,20000,20001,20002,20003,20004,20005,20006,20007,20008,20009,20010,20011]
def hints:List (Nat×Hint):=[
 (3,{ owns:=[35],ua:=[(35,3000000,[])] }),
 (7,{ owns:=[112,129],use:=[112,129],ua:=[(112,0,[]),(129,0,[])] }),
 (8,{ owns:=[10],use:=[9],bx:=[5160],ua:=[(10,3004096,[])] }),
 (9,{ rows:=[20],owns:=[19,22],use:=[19],ua:=[(19,3008192,[]),(22,3012288,[])] }),
 (11,{ loops:=[(4,[0,3],[])] }),
 (12,{ loops:=[(7,[8,9,27,28,29],[5416,5417])],mF:=[8],fP:=[55],stay:=[55,63],owns:=[26,55,63],use:=[62],ua:=[(26,0,[]),(63,0,[0])] }),
 (13,{ loops:=[(5,[1,2,7],[2,7]),(11,[7,10],[7,10]),(14,[7,10,11,12],[7,10])],rows:=[7,10],owns:=[32],ua:=[(32,3061440,[])] }),
 (14,{ loops:=[(4,[0,1,5],[])] }),
 (15,{ loops:=[(7,[0,2,4,6,8,9],[2,8,5128,5129,5130,5131,5132,5133])],rows:=[8],mF:=[4,6],mY:=[(12,[5128,5129,5130,5131,5132,5133])] }),
 (18,{ owns:=[15],use:=[14],ua:=[(15,0,[])] }),
 (19,{ rows:=[5,6],own:=true,OF:=[(4,[1])],nest:=[(5,1,57,2)] }),
 (20,{ rows:=[8],own:=true,OF:=[(8,[0,1,2,4])] }),
 (21,{ rows:=[18],use:=[18],bx:=[10000] }),
 (22,{ loops:=[(12,[1,3,5,7],[3,5]),(17,[1,3,5,8],[3,5])] }),
 (23,{ loops:=[(11,[1,3,5,7,9,10,11,12],[5,7,9,10,10000,10001,10002,10003,10004,10005,20000,20001,20002,20003,20004,20005]),(18,[1,5,7,9,10,13,14],[5,7,9,10,72,10000,10001,10002,10003,10004,10005,20000,20001,20002,20003,20004,20005])],rows:=[72],owns:=[29,43,51,68,100,109,117,129,145,149,160,169,177],use:=[26,34,48,62,95,106,108,116,123,128,138,148,157,159,168,172,176],own:=true,ua:=[(29,3016384,[]),(43,3020480,[]),(51,3024576,[]),(68,3073728,[]),(100,3077824,[]),(109,3028672,[]),(117,3032768,[]),(129,3036864,[]),(145,3040960,[]),(149,3045056,[]),(160,3049152,[]),(169,3053248,[]),(177,3057344,[])] }),
 (24,{ loops:=[(3,[2,3,4,6,7],[2,3,4,6,13,5208,5209,5210,5211,5212,5213]),(7,[2,3,4,6,8],[2,3,4,6,13,5208,5209,5210,5211,5212,5213]),(10,[2,3,4,6,9,10],[2,3,4,6,13,5208,5209,5210,5211,5212,5213]),(14,[2,3,4,6,9,10,11,12],[2,3,4,6,13,5208,5209,5210,5211,5212,5213]),(21,[3,4,6,13,14],[3,4,6,13,5208,5209,5210,5211,5212,5213])],rows:=[6,13,32],mF:=[9],fP:=[55],mY:=[(24,[5208,5209,5210,5211,5212,5213])] }),
 (25,{ loops:=[(4,[5,6,7],[])] }),
 (26,{ loops:=[(4,[1,3],[1])] }),
 (27,{ loops:=[(5,[4,5,18,19,20],[5,14,17]),(12,[4,5,32,33,34],[5,14,17]),(19,[4,10,11],[10,11,14,43])],rows:=[11],fP:=[15,40,47,48,65],stay:=[14,16,41,49,69],owns:=[14] }),
 (28,{ loops:=[(6,[0,3,4,7,9,30,31,32],[3,4,7,9]++dG),(14,[0,4,7,9,53,54,55],[4,7,9,5857]++dG)],rows:=[9],owns:=[53],ua:=[(53,0,[1])] }),
 (29,{ stay:=[11] }),
 (30,{ rows:=[6],fP:=[91],stay:=[14,19,25,30,40,45,54,67,77,82,88,93],own:=true }),
 (31,{ rows:=[2,5],stay:=[7],own:=true }),
 (32,{ loops:=[(2,[0,3],[]),(7,[0,4],[]),(11,[0,4,5,6],[]),(16,[0,7],[7])],rows:=[7] }),
 (33,{ loops:=[(6,[1,3,5,6,10,11],[3,5,6,8,10,5160,5161,5162,5163,5164,5165,5496,5497,5498,5499,5500,5501,10000,10001,10002,10003,10004,10005]),(14,[1,6,10,14,15],[6,8,10,5160,5161,5162,5163,5164,5165,5496,5497,5498,5499,5500,5501,10000,10001,10002,10003,10004,10005])],rows:=[10,31],mF:=[14],mY:=[(17,[5160,5161,5162,5163,5164,5165,5496,5497,5498,5499,5500,5501])],owns:=[21,47,62],ua:=[(21,3081920,[]),(47,3106496,[]),(62,3110592,[1])] }),
 (34,{ loops:=[(3,[0,1,5,6],[])] }),
 (35,{ loops:=[(2,[0,1,5],[])] }),
 (36,{ loops:=[(4,[0,1,5],[])] }),
 (37,{ loops:=[(8,[0,5,7,8,9],[8]),(12,[0,5,7,8,9,10,11],[8,10])],rows:=[8,10],mF:=[5,7,12],mY:=[(17,[10])] }),
 (38,{ loops:=[(7,[0,5,6,7],[6]),(15,[0,5,6,8,9,10],[6]),(19,[0,5,6,8,9,10,11,12],[6,11])],rows:=[6,13],mF:=[5,8,9] }),
 (39,{ loops:=[(3,[0,1,5,6],[5]),(8,[0,1,5,6,7,8],[5])],rows:=[5] }),
 (40,{ loops:=[(8,[0,5,7,8,9],[8])],rows:=[8],mF:=[5,7] }),
 (41,{ loops:=[(5,[2,6,7,8],[6,7,14,5112,5113,5114,5115,5116,5117,5160,5161,5162,5163,5164,5165])],rows:=[7,10,14],mY:=[(8,[14,5112,5113,5114,5115,5116,5117,5160,5161,5162,5163,5164,5165])] }),
 (44,{ loops:=[(4,[1,3],[1])] }),
 (45,{ loops:=[(4,[6,7,8,19,20,21],[6,16]),(8,[6,7,8,19,20,21,29,30,31],[6,16])],fP:=[18],bx:=[16] }),
 (46,{ loops:=[(14,[2,3,48,49,50],[2,3]++dG)],fP:=[64],bx:=[10000] }),
 (47,{ fP:=[83],bx:=[10000] }),
 (48,{ loops:=[(3,[3,4,6,16,17,18],[2,3,4,10,14,68,5160,5161,5162,5163,5164,5165,5208,5209,5210,5211,5212,5213,6104,6105,6106,6107,6108,6109]),(9,[3,4,6,9],[2,3,4,10,14,68,5160,5161,5162,5163,5164,5165,5208,5209,5210,5211,5212,5213,6104,6105,6106,6107,6108,6109]),(15,[4,6,10,72,73],[2,4,10,14,68,5160,5161,5162,5163,5164,5165,5208,5209,5210,5211,5212,5213,6104,6105,6106,6107,6108,6109])],rows:=[10,13,69],mY:=[(19,[68,5160,5161,5162,5163,5164,5165,6104,6105,6106,6107,6108,6109])],stay:=[68],owns:=[68] }),
 (49,{ loops:=[(2,[1,2,5],[2])] }),
 (51,{ loops:=[(2,[1,2,5],[2])] }),
 (52,{ owns:=[15,16],use:=[11,15],own:=true,ua:=[(15,3065536,[]),(16,3069632,[])] }),
 (53,{ own:=true }),
 (54,{ loops:=[(2,[2,3,4,5,8,9],[4,5,8,20000,20001,20002,20003,20004,20005])],owns:=[34,46,47],use:=[32,33,45,46],own:=true,ua:=[(34,3086016,[]),(46,3090112,[]),(47,3094208,[])] }),
 (55,{ loops:=[(2,[1,3,4,5,7,10,11],[5,7,10,10000,10001,10002,10003,10004,10005,20000,20001,20002,20003,20004,20005])],owns:=[27,39],use:=[26,34],own:=true,ua:=[(27,3098304,[]),(39,3102400,[])] }),
 (56,{ loops:=[(2,[1,2,7],[8])],rows:=[8] }),
 (57,{ own:=true }),
 (59,{ loops:=[(2,[0,1,5],[])] }),
 (60,{ loops:=[(3,[1,3,4],[1,10]),(8,[1,3,4,5,6],[1,10])],rows:=[10] }),
 (62,{ rows:=[2,5],stay:=[7],own:=true }),
 (63,{ fP:=[4],stay:=[6,8] }),
 (66,{ stay:=[7] }),
 (67,{ loops:=[(3,[4,16,17,18],[1,5192,5193])],mF:=[3,7,8],owns:=[12,24],ua:=[(12,0,[]),(24,0,[])] }),
 (69,{ loops:=[(2,[0,1,7,8],dG)],stay:=[7,16] }),
 (70,{ fP:=[6],stay:=[7] }),
 (72,{ stay:=[12,19,26,29] }),
 (73,{ loops:=[(4,[1,23,24,25],[2,10000,10001,10002,10003,10004,10005,20000,20001,20002,20003,20004,20005])],rows:=[4],fP:=[30],stay:=[14],owns:=[31],own:=true,ua:=[(31,0,[1])] }),
 (74,{ loops:=[(3,[0,1,2,8,9,10],dG)],stay:=[13,30,46] }),
 (77,{ fP:=[4],stay:=[6,9] }),
 (78,{ loops:=[(2,[0,1,5],[])] }),
 (79,{ loops:=[(3,[1,3,4],[1,5121])],fP:=[20],owns:=[7,21],ua:=[(7,3126976,[1]),(21,3131072,[1])] }),
 (80,{ loops:=[(4,[1,2,5],[2,10000,10001,10002,10003,10004,10005,20000,20001,20002,20003,20004,20005])],rows:=[4],fP:=[33],owns:=[34],own:=true,ua:=[(34,3135168,[1])] }),
 (81,{ loops:=[(3,[0,5,6],[])] }),
 (82,{ loops:=[(11,[0,3,5,7],[]),(17,[0,3,5,10],[]),(20,[0,3,5,10,11],[])],mF:=[3,5,12] }),
 (83,{ loops:=[(3,[0,3,4],[]),(6,[0,3,4,5],[])],mF:=[3] }),
 (84,{ loops:=[(4,[0,1,2,3,10,11,12],[])],mF:=[11] }),
 (85,{ loops:=[(3,[0,5,6],[])],mF:=[5] }),
 (86,{ loops:=[(12,[0,6,7],[])] }),
 (87,{ loops:=[(3,[0,3,4],[])],mF:=[3] }),
 (88,{ loops:=[(4,[1,7,8,9],[8])],rows:=[8],mF:=[7,10] }),
 (89,{ loops:=[(3,[3,4],[7]),(6,[3,4,5],[7])],rows:=[7],mF:=[6] }),
 (90,{ loops:=[(3,[0,1,2,3,9,10],[9]),(12,[9,11,12],[9])],rows:=[9] }),
 (93,{ loops:=[(3,[0,1,6,7],[])],mF:=[6,10] }),
 (94,{ loops:=[(2,[0,1,5],[])] }),
 (95,{ loops:=[(4,[1,2,3,7],[3]),(10,[1,2,3,8,9],[3])] }),
 (96,{ loops:=[(11,[2,5,6],[2])] }),
 (98,{ loops:=[(3,[1,3,12,13,14],[1,3]),(9,[3,6,36,37,38],[3,6])],rows:=[3] }),
 (99,{ stay:=[8] }),
 (101,{ loops:=[(2,[1,8,9,10],[2])] }),
 (102,{ bx:=[10001,10002] }),
 (103,{ bx:=[10001] }),
 (104,{ bx:=[10000] }),
 (107,{ bx:=[10002] }),
 (108,{ loops:=[(3,[0,7,12,13,14],[11]++dG)],stay:=[11],owns:=[11] }),
 (109,{ loops:=[(2,[0,2,10,11,12],dG)],bx:=[10000] }),
 (110,{ loops:=[(2,[0,2,4,18,19,20],[4]++dG),(8,[0,2,44,45,46],dG)] }),
 (111,{ rows:=[2,5],stay:=[7],own:=true }),
 (116,{ loops:=[(3,[2,8,9],[])],mF:=[8] }),
 (117,{ loops:=[(4,[0,1,5],[])] }),
 (118,{ loops:=[(2,[0,1,2,6,7,8],dG),(7,[0,1,2,6],dG),(9,[0,1,2,6,7,8],dG)],fP:=[14,23,36,55],stay:=[18,27,43,60] }),
 (120,{ loops:=[(2,[0,1,7,8],dG)],stay:=[7,16] }),
 (121,{ loops:=[(6,[4,5,13,14,15],[4,5,13,5064,5065,5066,5067,5068,5069,5080,5081,5082,5083,5084,5085])],rows:=[2,3,4,5],fP:=[9,13,21,26],stay:=[22,27],own:=true }),
 (122,{ stay:=[7] }),
 (123,{ fP:=[6,10,12],stay:=[7,11,13] }),
 (124,{ loops:=[(2,[0,1,5],[])] }),
 (125,{ loops:=[(3,[0,3,4],[]),(7,[0,3,4,5,6],[]),(12,[0,3,4,5,6,7],[])],mF:=[3,5] }),
 (126,{ loops:=[(3,[0,1,5,6],[5])],rows:=[5] }),
 (127,{ loops:=[(2,[1,2,6],[2])] }),
 (128,{ loops:=[(3,[0,1,5,6],[5])],rows:=[5] }),
 (129,{ loops:=[(2,[0,3],[])],rows:=[18] }),
 (130,{ loops:=[(4,[0,1,5],[])] }),
 (131,{ loops:=[(4,[0,3],[])] }),
 (132,{ loops:=[(2,[0,3],[])] }),
 (133,{ loops:=[(2,[0,3],[]),(6,[0,3,4,5],[])],mF:=[4] }),
 (134,{ loops:=[(3,[0,3,4],[3]),(7,[0,3,4,5,6],[3])],rows:=[3] }),
 (135,{ loops:=[(5,[0,5,6],[15]),(8,[0,5,6,7],[15]),(14,[5,8,9],[15])],rows:=[15],mF:=[8] }),
 (136,{ loops:=[(2,[0,1,5],[])] }),
 (137,{ loops:=[(3,[0,4,5],[6])],rows:=[6] }),
 (138,{ loops:=[(2,[0,1,5],[])] }),
 (141,{ loops:=[(4,[0,5,6,7],[5]),(9,[0,5,6,7,8,9,10],[5])],rows:=[5],mF:=[6,8] }),
 (144,{ loops:=[(6,[1,3],[1])] }),
 (146,{ rows:=[9] }),
 (147,{ loops:=[(3,[0,3,4,5,13,14,15],[3,4,5,5080,5081,5082,5083,5084,5085]),(8,[0,4,5,33,34,35],[3,4,5,5080,5081,5082,5083,5084,5085]),(12,[0,4,5,10,33,34,35,43,44,45],[3,4,5,9,10,5080,5081,5082,5083,5084,5085,5160,5161,5162,5163,5164,5165,5656,5657,5658,5659,5660,5661])],rows:=[5,10,41],mY:=[(16,[5160,5161,5162,5163,5164,5165,5656,5657,5658,5659,5660,5661]),(18,[5080,5081,5082,5083,5084,5085])] }),
 (149,{ loops:=[(3,[2,3,8,9],[2,3,5,5048,5049,5050,5051,5052,5053,5112,5113,5114,5115,5116,5117])],rows:=[3,7],mY:=[(7,[5048,5049,5050,5051,5052,5053,5112,5113,5114,5115,5116,5117])] }),
 (150,{ loops:=[(3,[3,9,10,11],[1]),(6,[3,9,10,11,16,17,18],[1,5])] }),
 (151,{ loops:=[(4,[3,4,13,14,15],[1,4]),(7,[3,4,5,13,14,15,21,22,23],[1,4,6])],rows:=[4],mF:=[9],stay:=[31,42],owns:=[31] }),
 (152,{ rows:=[22] }),
 (153,{ loops:=[(2,[0,1,7,8],dG)],stay:=[7,16] }),
 (157,{ loops:=[(2,[0,1,7,8],dG)],bx:=[10001,10002] }),
 (159,{ rows:=[2,5],stay:=[7],own:=true }),
 (161,{ loops:=[(2,[2,15,16,17],[])] }),
 (162,{ owns:=[20],use:=[20] }),
 (163,{ loops:=[(3,[0,3,4,5,6],[3,4,5,5080,5081,5082,5083,5084,5085]),(7,[0,3,4,5,7],[3,4,5,5080,5081,5082,5083,5084,5085]),(12,[0,3,4,5,7,8,9,10],[3,4,5,8,5080,5081,5082,5083,5084,5085,5128,5129,5130,5131,5132,5133,5704,5705,5706,5707,5708,5709])],rows:=[5,8,44],mY:=[(15,[5128,5129,5130,5131,5132,5133,5704,5705,5706,5707,5708,5709]),(16,[5080,5081,5082,5083,5084,5085])] }),
 (164,{ rows:=[38],mY:=[(3,[5304])],owns:=[11,13,19,27],use:=[12,18,27,38],ua:=[(11,3114688,[]),(13,3118784,[]),(19,3122880,[])] }),
 (165,{ loops:=[(2,[1,2,6],[2])] }),
 (168,{ loops:=[(1,[0,1,2,3,8],dG),(4,[0,1,2,3,8,9],dG)],stay:=[32] }),
 (169,{ loops:=[(3,[0,1,4,10,11],dG),(9,[0,10,13],dG),(15,[0,2,4,14,15],dG),(21,[0,14,17],dG),(33,[0,1,2,3,4,18,19,20,21,22],dG)],fP:=[186,200,214],stay:=[49,101,169,191,205,219] }),
 (171,{ loops:=[(7,[3,24,25,26],[4]++dG)] }),
 (172,{ fP:=[5],stay:=[4,9,10] }),
 (173,{ loops:=[(4,[0,3],[10000]),(9,[0,3,4,5],[10000])],mF:=[4],stay:=[7,12,31] }),
 (174,{ loops:=[(2,[0,1,7,8],[])],stay:=[7] }),
 (175,{ loops:=[(1,[0,2,3],[10000])],stay:=[5] }),
 (178,{ loops:=[(2,[0,1,5],[])] }),
 (179,{ loops:=[(2,[1,2,5],[2])] }),
 (180,{ loops:=[(3,[0,1,5,6],[])],mF:=[5] }),
 (181,{ loops:=[(5,[0,5,6],[16]),(9,[0,5,6,7,8],[16]),(15,[5,9,10],[16])],rows:=[16],mF:=[7,9] }),
 (182,{ loops:=[(3,[0,3,4],[3])],rows:=[3] }),
 (183,{ loops:=[(3,[0,1,5,6],[5])],rows:=[5] }),
 (185,{ loops:=[(13,[1,3,4],[1])] }),
 (186,{ rows:=[10] }),
 (189,{ loops:=[(12,[2,6,7,8,40,41,42],[2,8,5128,5129,5130,5131,5132,5133,5624,5625,5626,5627,5628,5629])],rows:=[8,39],mF:=[4,6,7],mY:=[(16,[5128,5129,5130,5131,5132,5133,5624,5625,5626,5627,5628,5629])] }),
 (190,{ loops:=[(4,[0,1,12,13],[])],stay:=[7,9,12] }),
 (191,{ loops:=[(2,[0,4,15,16,17],dG),(8,[0,4,7,15,16,17,46,47,48],[6,7]++dG)],rows:=[7],mY:=[(12,[7])] }),
 (192,{ loops:=[(3,[3,7,8],[3,7,15,5112,5113,5114,5115,5116,5117]++dG)],rows:=[7,15],fP:=[16] }),
 (193,{ loops:=[(3,[1,2,4,5,16,17],[2,4,5,7,14,5080,5081,5082,5083,5084,5085,5112,5113,5114,5115,5116,5117]++dG)],rows:=[5,7,14],fP:=[24],mY:=[(11,[5112,5113,5114,5115,5116,5117])] }),
 (195,{ loops:=[(2,[1,7,8,9],[])] }),
 (196,{ loops:=[(3,[2,3,6,8,12,13,14],[3,6,8,5128,5129,5130,5131,5132,5133])],rows:=[8],fP:=[45],mY:=[(10,[5128,5129,5130,5131,5132,5133])],owns:=[48],use:=[47],ua:=[(48,3139264,[0])] }),
 (197,{ loops:=[(6,[1,2,18,19,20],[1,2])] }),
 (198,{ stay:=[29] }),
 (199,{ loops:=[(3,[0,1,5,6],[9]),(7,[0,1,5,6,7,8],[7,9,5112,5113,5114,5115,5116,5117,5368,5369,5370,5371,5372,5373])],rows:=[7,9,23],mY:=[(10,[5112,5113,5114,5115,5116,5117,5368,5369,5370,5371,5372,5373])] }),
 (200,{ loops:=[(5,[0,1,5,6,7,8],[7,20,23]),(11,[5,6,7,9],[7,20,23]),(17,[5,6,7,9,10,11,12],[7,20,23]),(23,[5,6,7,9,10,11,13,14],[7,20,23,112])],rows:=[7,23,112],owns:=[20],use:=[158] }),
 (201,{ loops:=[(5,[7,8,9,10],[29])],rows:=[29] }),
 (202,{ loops:=[(3,[0,3,4],[3])],rows:=[2,3],mvs:=[2,3],own:=true }),
 (203,{ loops:=[(3,[1,2,3,8,9],[3,15]),(10,[1,2,8,12],[15])],rows:=[15] }),
 (204,{ loops:=[(3,[0,1,2,3,8,9,10],[8,9,5144,5145,5146,5147,5148,5149]),(7,[0,1,3,8,9,11],[8,9,5144,5145,5146,5147,5148,5149]),(11,[0,1,3,8,9,11,12,13],[8,9,5144,5145,5146,5147,5148,5149])],rows:=[9],mY:=[(17,[5144,5145,5146,5147,5148,5149])],take:=[79],OF:=[(29,[1])],nest:=[(5128,1,57,2),(5144,1,57,2)] }),
 (205,{ loops:=[(3,[1,2,4,6,7],[2,4,9000,9001,9002,20000,20001,20002,20003,20004,20005])],own:=true,take:=[45],OF:=[(33,[1])],nest:=[(5064,1,57,2)] }),
 (208,{ loops:=[(2,[0,2,4,10,11],dG)],fP:=[24,35,50],stay:=[31,46,57] }),
 (209,{ loops:=[(2,[0,1,2,3,8,9],[10000])],fP:=[24,30,36,51,69,88,95,117,127],stay:=[27,33,39,46,54,72,85,92,99,121,132] }),
 (211,{ loops:=[(4,[0,1,3,4,5,6],[12,15,16]++dG),(8,[0,1,3,4,5,6,42,43,44],[12,15,16]++dG)],rows:=[12,15,16],stay:=[68],owns:=[68],use:=[72] }),
 (213,{ loops:=[(6,[4,6,20,21,22],[6])],rows:=[6] }),
 (215,{ loops:=[(10,[0,5,6,9,34,35,36],[9]),(18,[0,5,6,9,12,14,34,35,36,53,54,55],[9,12,14])],rows:=[9,14],mF:=[5,6,7],fP:=[77] }),
 (216,{ loops:=[(3,[1,2,5,6,12,13],[2,5,6]),(9,[2,5,6,30,31,32],[2,5,6])],rows:=[5,6],mY:=[(8,[2])] }),
 (217,{ loops:=[(8,[0,2,3,9,10,11],[11]++dG)],rows:=[11],mF:=[9,10],use:=[150] }),
 (218,{ loops:=[(1,[0,1],dG)] }),
 (219,{ loops:=[(9,[3,4,7,8,49,50,51],[8]++dG)],rows:=[8],use:=[69] }),
 (221,{ loops:=[(3,[0,5,13,14,15],[10000,10001,10002,10003,10004,10005,20000,20001,20002,20003,20004,20005]),(7,[0,5,8,13,14,15,23,24,25],[7,8,5128,5129,5130,5131,5132,5133,5336,5337,5338,5339,5340,5341,10000,10001,10002,10003,10004,10005,20000,20001,20002,20003,20004,20005])],rows:=[4,8,21],mY:=[(11,[5128,5129,5130,5131,5132,5133,5336,5337,5338,5339,5340,5341])],own:=true }),
 (222,{ loops:=[(5,[1,5,13,14,15],[2,11])] }),
 (223,{ loops:=[(8,[2,4,5,8,22,23,24],[2,4,5,6,8,13,20,5096,5097,5098,5099,5100,5101,5128,5129,5130,5131,5132,5133,5336,5337,5338,5339,5340,5341]),(12,[2,4,5,8,9,10,11,22,23,24,38,39],[2,4,5,6,8,13,20,36,5096,5097,5098,5099,5100,5101,5128,5129,5130,5131,5132,5133,5336,5337,5338,5339,5340,5341])],rows:=[6,8,20,21],fP:=[14],mY:=[(16,[36]),(18,[20,5128,5129,5130,5131,5132,5133,5336,5337,5338,5339,5340,5341])],stay:=[35,36],owns:=[36] }),
 (224,{ loops:=[(3,[0,1,5,14,15],[12])],rows:=[12] }),
 (227,{ loops:=[(2,[0,1,6],[])] }),
 (228,{ loops:=[(3,[2,8,9],[])] }),
 (229,{ loops:=[(3,[1,2,4,5,6],[2,4,7,14,5112,5113,5114,5115,5116,5117,5208,5209,5210,5211,5212,5213]),(9,[2,4,5,7,8],[2,4,7,14,5112,5113,5114,5115,5116,5117,5208,5209,5210,5211,5212,5213]),(14,[2,4,5,7,8,9,10,11],[2,4,7,9,14,56,5112,5113,5114,5115,5116,5117,5208,5209,5210,5211,5212,5213])],rows:=[7,13],mY:=[(17,[56]),(18,[5112,5113,5114,5115,5116,5117])],owns:=[56] }),
 (230,{ loops:=[(1,[0,1,2,3,10],dG)] }),
 (231,{ loops:=[(1,[0,1,2,6],[10000]),(4,[0,1,2,6,7],[10000])],stay:=[29] }),
 (232,{ loops:=[(4,[0,6,7,8,9],[10000]),(8,[0,6,7,10],[10000])],fP:=[22,51],stay:=[26,55] }),
 (233,{ loops:=[(5,[0,1,6,7,8,9],[7,10000])],stay:=[19,36] }),
 (234,{ stay:=[37,40,43,48] }),
 (235,{ loops:=[(2,[0,6,7],[10000])] }),
 (236,{ loops:=[(3,[0,1,2,7,8],[10000]),(5,[0,1,2,7,8],[10000]),(14,[0,1,2,7,8,9],[10000]),(20,[0,1,2,7,8,10],[10000])],stay:=[30,77,115] }),
 (238,{ loops:=[(3,[0,1,9,10],[10000]),(5,[0,1,9,10],[10000])],stay:=[41,58] }),
 (239,{ loops:=[(3,[0,1,10,11],[10000]),(5,[0,1,10,11],[10000]),(13,[0,1,10,11],[10000]),(15,[0,1,10,11],[10000])],stay:=[42,58,111,127] }),
 (243,{ loops:=[(6,[4,6,24,25,26],[21,23,5352,5353,5354,5355,5356,5357])],rows:=[22],mF:=[4],mY:=[(8,[8])],stay:=[38] }),
 (244,{ loops:=[(11,[0,5,20,21,22],[])] }),
 (245,{ loops:=[(3,[0,4,15,16,17],[4]),(10,[0,4,7,32,33,34],[4,31]),(14,[0,4,7,8,10,32,33,34,41,42,43],[4,10,31])],rows:=[4,10,31],fP:=[27] }),
 (246,{ loops:=[(5,[5,6,13,14,15],[4,5,11,5080,5081,5082,5083,5084,5085]),(10,[5,6,9],[4,5,11,5080,5081,5082,5083,5084,5085]),(13,[5,6,9,10],[4,5,11,5080,5081,5082,5083,5084,5085])],rows:=[5],mF:=[8],fP:=[12] }),
 (247,{ loops:=[(2,[1,7,8,9],dG)],mF:=[6] }),
 (249,{ loops:=[(3,[3,6,7,8],[3]),(5,[3,4,5,6,7,8],[3])],rows:=[3] }),
 (250,{ loops:=[(12,[0,1,5,39,40,41],[]),(22,[1,8,63,64,65],[8,5128,5129,5130,5131,5132,5133])],rows:=[8] }),
 (251,{ loops:=[(5,[5,6,7,17,18,19],[7])],rows:=[7],mF:=[5] }),
 (252,{ fP:=[7],stay:=[6,11,13] }),
 (254,{ loops:=[(3,[3,6,7,8],[])] }),
 (256,{ loops:=[(3,[3,6,7,8],[])] }),
 (260,{ stay:=[7] }),
 (261,{ loops:=[(2,[1,7,8,9],[])] }),
 (262,{ loops:=[(3,[2,4,25,26,27],[25]++dG)],stay:=[24,25],owns:=[25] }),
 (263,{ rows:=[4],fP:=[8],stay:=[7,10],own:=true }),
 (266,{ loops:=[(2,[0,3],[])] }),
 (267,{ loops:=[(4,[0,4,5],dG)],mF:=[4],owns:=[36] }),
 (268,{ loops:=[(3,[0,3,4],[3,6]),(6,[0,3,4,5],[3,6])],rows:=[2,3,6],mvs:=[2,3,6],own:=true }),
 (269,{ loops:=[(1,[0,2,3,8],[10000])],stay:=[35,51] }),
 (270,{ stay:=[5] }),
 (272,{ stay:=[14] }),
 (273,{ stay:=[16,24,32] }),
 (275,{ mF:=[8],fP:=[30] }),
 (276,{ loops:=[(2,[0,1,7,8],dG)],stay:=[7,16] }),
 (278,{ loops:=[(3,[0,3,19,20,21],[15]++dG),(6,[0,3,19,20,21,26,27,28],[5,15]++dG),(14,[0,3,43,44,45],[15]++dG),(17,[0,3,9,43,44,45,50,51,52],[9,15]++dG),(29,[0,82],[82]++dG)],fP:=[100],stay:=[66,101] }),
 (279,{ loops:=[(2,[1,10,11,12],[1]++dG)],fP:=[20],stay:=[18,21] }),
 (280,{ loops:=[(2,[0,15,16],dG),(7,[0,4,5,15,16,25,26,27],[4]++dG)],rows:=[4],mF:=[8],mY:=[(16,[4])],stay:=[21] }),
 (282,{ loops:=[(3,[3,9,10,11],[8])] }),
 (283,{ loops:=[(3,[3,12,13,14],[]),(6,[3,5,12,13,14,19,20,21],[5])],mF:=[8] }),
 (284,{ loops:=[(5,[3,4,5,18,19,20],[5,16,17]),(11,[3,4,5,7,18,19,20,40,41,42],[5,7,16,17]),(17,[3,4,5,10],[5,10,16,17]),(22,[3,4,5,10,71,72,73],[5,10,16,17])],rows:=[5,10,17,46,48],fP:=[62],mY:=[(16,[17])] }),
 (285,{ loops:=[(3,[1,5,15,16,17],[14]),(9,[1,5,7,15,16,17,34,35,36],[7,14])],rows:=[14,30,40,42],mF:=[8],mY:=[(14,[14])] }),
 (286,{ loops:=[(3,[0,1,6,7,8],[])],stay:=[11,27,47,50] }),
 (287,{ loops:=[(3,[0,4,10,11,12],[]),(11,[7,30,31,32],[29])],rows:=[29] }),
 (289,{ loops:=[(3,[3,11,12,13],[10]),(6,[3,5,6,11,12,13],[10])],rows:=[10] }),
 (294,{ loops:=[(4,[5,6,13,14,15],[6])],rows:=[6],mF:=[9],fP:=[31,33] }),
 (295,{ loops:=[(3,[3,9,10,11],[8])] }),
 (296,{ loops:=[(7,[0,7,8,9],[20,24]),(10,[0,7,8,9,36,37,38],[20,24])],rows:=[24],mF:=[5],fP:=[53] }),
 (298,{ loops:=[(2,[0,1,2,3,4,10,11],dG)],fP:=[26,33,40,57,76,98,106,129,140],stay:=[30,37,44,52,61,80,94,103,111,134,146] }),
 (301,{ loops:=[(2,[0,1,7,8],dG)],stay:=[7,16] }),
 (303,{ stay:=[4] }),
 (304,{ fP:=[7],stay:=[6,11,13] }),
 (305,{ loops:=[(1,[0,5,6,7],dG)],stay:=[6,13] }),
 (306,{ stay:=[18] }),
 (309,{ loops:=[(1,[0,1,4],[10000])] }),
 (310,{ loops:=[(11,[0,1,3,4,10,11,12,13,14,15,16],[12,10000]),(18,[0,1,3,4,10,11,12,13,17],[12,10000])] }),
 (312,{ stay:=[7] }),
 (314,{ loops:=[(3,[0,3,5,11,12,13],[3,5]++dG)],rows:=[5],mY:=[(2,[3])],stay:=[20] }),
 (315,{ fP:=[6],stay:=[7] }),
 (317,{ loops:=[(4,[1,2,5,6,16,17,18],[2,5,11]++dG),(8,[1,2,5,6,16,17,18,36,37,38],[2,5,8,11]++dG)],fP:=[12],stay:=[33],keep:=[10001,10002,10003,10004] }),
 (319,{ stay:=[7] }),
 (322,{ loops:=[(5,[0,3,4],[])],stay:=[6,14,23] }),
 (323,{ loops:=[(5,[0,1,5,6],dG)],stay:=[10,18,28] }),
 (327,{ mF:=[4] }),
 (328,{ loops:=[(1,[0,1,2,3,8],dG),(4,[0,1,2,3,8,9],dG)],stay:=[32] }),
 (329,{ loops:=[(4,[0,3,8,9,10,11],dG),(8,[0,3,8,9,12],dG)],fP:=[24,54],stay:=[29,59] }),
 (330,{ loops:=[(5,[0,1,8,9,10,11],[9]++dG)],stay:=[21,38] }),
 (331,{ stay:=[40,44,48,54] }),
 (332,{ loops:=[(2,[0,8,9],dG)] }),
 (333,{ loops:=[(3,[0,1,2,3,9,10],dG),(5,[0,1,2,3,9,10],dG),(14,[0,1,2,3,9,10,11],dG),(20,[0,1,2,3,9,10,12],dG)],stay:=[33,82,122] }),
 (334,{ loops:=[(3,[0,1,4,11,12],dG),(5,[0,1,4,11,12],dG)],stay:=[44,63] }),
 (335,{ loops:=[(3,[0,1,4,12,13],dG),(5,[0,1,4,12,13],dG),(13,[0,1,4,12,13],dG),(15,[0,1,4,12,13],dG)],stay:=[45,63,118,136] }),
 (337,{ loops:=[(2,[0,1,2,3,4,10,11],dG)],fP:=[26,33,40,57,76,98,106,129,140],stay:=[30,37,44,52,61,80,94,103,111,134,146] }),
 (342,{ loops:=[(4,[1,16],[16]++dG)] }),
 (344,{ loops:=[(2,[0,1,7,8],dG)],stay:=[7,16] }),
 (346,{ mF:=[4,5],stay:=[10] }),
 (348,{ loops:=[(2,[1,7,8,9],dG)] }),
 (350,{ loops:=[(2,[0,1,7,8],dG)],stay:=[7,16] }),
 (354,{ loops:=[(1,[0,2,3,4,10],dG)],stay:=[38,56] }),
 (355,{ stay:=[17] }),
 (356,{ stay:=[19,28,37] }),
 (357,{ loops:=[(1,[0,1,2,3,8],dG),(4,[0,1,2,3,8,9],dG)],stay:=[32] }),
 (358,{ loops:=[(4,[0,3,8,9,10,11],dG),(8,[0,3,8,9,12],dG)],fP:=[24,54],stay:=[29,59] }),
 (359,{ loops:=[(5,[0,1,8,9,10,11],[9]++dG)],stay:=[21,38] }),
 (360,{ stay:=[40,44,48,54] }),
 (361,{ loops:=[(2,[0,8,9],dG)] }),
 (362,{ loops:=[(3,[0,1,2,3,9,10],dG),(5,[0,1,2,3,9,10],dG),(14,[0,1,2,3,9,10,11],dG),(20,[0,1,2,3,9,10,12],dG)],stay:=[33,82,122] }),
 (363,{ loops:=[(3,[0,1,4,11,12],dG),(5,[0,1,4,11,12],dG)],stay:=[44,63] }),
 (364,{ loops:=[(3,[0,1,4,12,13],dG),(5,[0,1,4,12,13],dG),(13,[0,1,4,12,13],dG),(15,[0,1,4,12,13],dG)],stay:=[45,63,118,136] }),
 (367,{ stay:=[21] }),
 (368,{ loops:=[(1,[0,2,3,4,10],dG)],stay:=[38,56] }),
 (369,{ stay:=[17] }),
 (370,{ stay:=[19,28,37] }),
 (371,{ stay:=[21] })]
def H (f:Nat):Hint:=(find hints f).getD {}
def gL:eM:=λf args cL=>match f,args,cL with
 |159,[.pv (.dy 1 xs)],[]=>bif Nat.ble (xs.length *8) 140737488355328 then some (.gM [.gM [.self 3, .dy 1 xs]],[]) else none
 |111,[.pv (.dy 2 xs)],[]=>bif Nat.ble (xs.length *32) 140737488355328 then some (.gM [.gM [.self 60, .dy 2 xs]],[]) else none
 |31,[.pv (.dy 3 xs)],[]=>bif Nat.ble (xs.length *64) 140737488355328 then some (.gM [.gM [.self 66, .dy 3 xs]],[]) else none
 |62,[.pv (.dy 6 xs)],[]=>bif Nat.ble (xs.length *112) 140737488355328 then some (.gM [.gM [.self 62, .dy 6 xs]],[]) else none
 |172,[.row 10000],[(10000, .row 9 1 xs)]=>match strs xs with
  |some l=>bif Nat.ble l.length 1073741824 then some (.gM [],[(10000, .row 9 1 ((tE Op.bytesLess l).map oV))]) else none
  |none=>none
 |263,[.pv (.fn 305 [.ref [.dy 2 xs]]), .pv (.fn 265 [])],[]=>match AF xs with
  |some l=>bif AE l&&Nat.ble l.length 1073741824 then some (.gM [.gM [.self 57, .dy 2 ((tE UN l).map QZ)]],[]) else none
  |none=>none
 |65,[.pv (.str a), .pv (.str b)],[]=>some (.int .i64 (Lx a b),[])
 |72,[.row 10000, .pv (.int .i64 i), .pv (.int .i64 j)],[(10000, .row e 6 xs)]=>bif decide (0<=i)&&decide (i<j)&&decide (j<=xs.length)&&Nat.beq e 62 then some (.self (xs.length-(j-i).toNat),[(10000, .row e 6 (xs.take i.toNat++xs.drop j.toNat++List.replicate (j-i).toNat adk))]) else none
 |_,_,_=>none
noncomputable abbrev Rn:eM:=run P H gL
instance:IL Node Node.enc:=⟨⟩
instance:IL FSt FSt.enc:=⟨⟩
instance:IL aC aC.enc:=⟨⟩
instance:IL fG fG.enc:=⟨⟩
instance:IL cU cU.enc:=⟨⟩
instance:IL cB cB.enc:=⟨⟩
instance:IL ec ec.enc:=⟨⟩
instance:IL fJ fJ.enc:=⟨⟩
instance:IL fL fL.enc:=⟨⟩
instance:IL dL dL.enc:=⟨⟩
instance:IL Template Template.enc:=⟨⟩
instance:IL tag tag.enc:=⟨⟩
instance:IL Def Def.enc:=⟨⟩
instance:IL bV bV.enc:=⟨⟩
instance:IL (List cB) (mJ 2 cB.enc):=⟨⟩
instance:IL (List fL) (mJ 2 fL.enc):=⟨⟩
instance {x:fG}:En x.Code (dX .u64):=⟨⟩
instance {x:fJ}:En x.Code (dX .u64):=⟨⟩
instance {Name:List UInt8} {Path:List Int} {l q:AV} [w:Rw (AV.str Name) l] [z:Rw (AV.dy 1 (List.map (dX .i64) Path)) q]:Rw (tag.enc ⟨Name,Path⟩) [l,q]:=⟨by rw[<-w.e,<-z.e];rfl⟩
instance {l:Int} {q:Int} {w z:AV} [B:Rw (AV.int .i64 l) w] [D:Rw (AV.int .i64 q) z]:Rw (cB.enc ⟨l,q⟩) [w,z]:=⟨by rw[<-B.e,<-D.e];rfl⟩
instance {l:Int} {q:List cB} {w z:AV} [B:Rw (AV.int .i64 l) w] [D:Rw (AV.dy 2 (List.map cB.enc q)) z]:Rw (Node.enc ⟨l,q⟩) [w,z]:=⟨by rw[<-B.e,<-D.e];rfl⟩
instance:Gn Qj:=⟨⟩
instance:Gn DL:=⟨⟩
instance:Gn Ac:=⟨⟩
instance:Gn Ao:=⟨⟩
instance:Gn FF:=⟨⟩
instance:Gn Lo:=⟨⟩
instance:Gn DM:=⟨⟩
instance:Gn Lp:=⟨⟩
instance:Gn sD:=⟨⟩
instance:Gn CZ:=⟨⟩
instance:Gn HE:=⟨⟩
instance:Gn wm:=⟨⟩
instance:Gn Nd:=⟨⟩
instance {d:bV}:En d.Kids bV.iX:=⟨⟩
instance {d:bV}:XG d.Kids bV.iX bV.enc:=⟨bV.mj⟩
instance {d:Def}:En d.eP bV.iX:=⟨⟩
instance {d:Def}:XG d.eP bV.iX bV.enc:=⟨bV.mj⟩
theorem eu:IL Int (dX .u64):=⟨⟩
instance:Zj (List (List UInt8)) (pL 1 oV):=⟨⟩
instance:Zj (List Int) (pL 1 (dX .i64)):=⟨⟩
abbrev Lt {l:Type} (f t:Option l):Prop:=∀{r:l},t=some r->f=some r
noncomputable abbrev rn {l:Type} (q:l->AV) (f:Nat) (a:List SV):Option l:=dec (EN q) (Rn f a [])
noncomputable abbrev hd {l:Type} (q:l->AV) (f k:Nat) (e:List (Nat×SV)) (o:List (Nat×Ob)):Option l:=dec (EN q) (zX P wj H gL f k [] e o)
noncomputable abbrev hx {w:Type} (q:w->Out) (f k:Nat) (l:List Nat) (e:List (Nat×SV)) (o:List (Nat×Ob)):Option w:=dec q (zX P wj H gL f k l e o)
abbrev Qw (x:fJ):Ob:= .box 106 (List.map .pv (fJ.enc x))
abbrev rR (x:aC):Ob:= .box 116 (List.map .pv (aC.enc x))
abbrev GK (x:world):Ob:= .box 226 (List.map .pv (world.enc x))
abbrev ki (x:bV):Ob:= .box 27 (List.map .pv (bV.enc x))
abbrev e8 (x:FSt):Ob:= .box 30 (List.map .pv (FSt.enc x))
abbrev dH (x:aU):Ob:= .box 36 (List.map .pv (aU.enc x))
abbrev BV (x:Node):Ob:= .box 60 (List.map .pv (Node.enc x))
abbrev D9 (x:Def):Ob:= .box 62 (List.map .pv (Def.enc x))
abbrev Cy (x:Template):Ob:= .box 66 (List.map .pv (Template.enc x))
abbrev qJ (x:state):Ob:= .box 74 (List.map .pv (state.enc x))
abbrev wN (x:List (V3.T×V3.T)):Ob:= .mp 3 3 (ey V3 V3 x).1 (ey V3 V3 x).2
abbrev R6 (x:List (V3.T×V4.T)):Ob:= .mp 3 4 (ey V3 V4 x).1 (ey V3 V4 x).2
abbrev ud (x:List (V9.T×Cp.T)):Ob:= .mp 9 107 (ey V9 Cp x).1 (ey V9 Cp x).2
abbrev Tj (x:Bool):SV:= .pv (.bool x)
abbrev pg_Arc (x:cB):SV:= .pv (.agg (cB.enc x))
abbrev W4 (x:Case):SV:= .pv (.agg (Case.enc x))
abbrev Sk (x:fJ):SV:= .pv (.agg (fJ.enc x))
abbrev OJ (x:Def):SV:= .pv (.agg (Def.enc x))
abbrev kq (x:bV):SV:= .pv (.agg (bV.enc x))
abbrev mW (x:FSt):SV:= .pv (.agg (FSt.enc x))
abbrev ck (x:aU):SV:= .pv (.agg (aU.enc x))
abbrev pg_Node (x:Node):SV:= .pv (.agg (Node.enc x))
abbrev Sl (x:Template):SV:= .pv (.agg (Template.enc x))
abbrev Hl (x:aC):SV:= .pv (.agg (aC.enc x))
abbrev Sn (x:fG):SV:= .pv (.agg (fG.enc x))
abbrev Sq (x:world):SV:= .pv (.agg (world.enc x))
abbrev aG (x:Int):SV:= .pv (.int .i64 x)
abbrev W5 (x:Int):SV:= .pv (.int .u8 x)
abbrev eL (x:List (Int)):SV:= .pv (.dy 1 (List.map (dX .i64) x))
abbrev vg (x:List (List (Int))):SV:= .pv (.dy 1 (List.map (mJ 1 (dX .u64)) x))
abbrev OL (x:List (List (fL))):SV:= .pv (.dy 1 (List.map (mJ 2 fL.enc) x))
abbrev gN (x:List (Int)):SV:= .pv (.dy 1 (List.map (dX .u64) x))
abbrev dm (x:List (List UInt8)):SV:= .pv (.dy 1 (List.map oV x))
abbrev Kh (x:List (fL)):SV:= .pv (.dy 2 (List.map fL.enc x))
abbrev kO (x:List (cB)):SV:= .pv (.dy 2 (List.map cB.enc x))
abbrev gW (x:List (fJ)):SV:= .pv (.dy 2 (List.map fJ.enc x))
abbrev ES (x:List (ec)):SV:= .pv (.dy 2 (List.map ec.enc x))
abbrev er (x:List (cU)):SV:= .pv (.dy 2 (List.map cU.enc x))
abbrev dK (x:List (Node)):SV:= .pv (.dy 2 (List.map Node.enc x))
abbrev dc (x:List (Template)):SV:= .pv (.dy 3 (List.map Template.enc x))
abbrev bH (x:List (aC)):SV:= .pv (.dy 3 (List.map aC.enc x))
abbrev eT (x:List (fG)):SV:= .pv (.dy 4 (List.map fG.enc x))
abbrev oK (x:List (Def)):SV:= .pv (.dy 6 (List.map Def.enc x))
abbrev uh (x:List UInt8):SV:= .pv (.str x)
abbrev gF (n:Nat):Nat×SV:=(n, .ptr n 0)
abbrev yz (n:Nat):Nat×SV:=(n, .row n)
abbrev By (x:List (List (Int))):Ob:= .row 104 1 (List.map (mJ 1 (dX .u64)) x)
abbrev yf (x:List (List (fL))):Ob:= .row 109 1 (List.map (mJ 2 fL.enc) x)
abbrev xF (x:List (fG)):Ob:= .row 111 4 (List.map fG.enc x)
abbrev KC (x:List (fL)):Ob:= .row 154 2 (List.map fL.enc x)
abbrev qG (x:List (cU)):Ob:= .row 165 2 (List.map cU.enc x)
abbrev qj (x:List (ec)):Ob:= .row 167 2 (List.map ec.enc x)
abbrev jC (x:List (tag)):Ob:= .row 190 2 (List.map tag.enc x)
abbrev yg (x:List (Int)):Ob:= .row 244 1 (List.map (dX .u64) x)
abbrev kD (x:List (dL)):Ob:= .row 275 2 (List.map dL.enc x)
abbrev Gf (x:List (FSt)):Ob:= .row 30 1 (List.map FSt.enc x)
abbrev dY (x:List (Int)):Ob:= .row 3 1 (List.map (dX .i64) x)
abbrev iO (x:List (cB)):Ob:= .row 57 2 (List.map cB.enc x)
abbrev nY (x:List (List (cB))):Ob:= .row 58 1 (List.map (mJ 2 cB.enc) x)
abbrev dV (x:List (Node)):Ob:= .row 60 2 (List.map Node.enc x)
abbrev fW (x:List (Template)):Ob:= .row 66 3 (List.map Template.enc x)
abbrev gb (x:List (List UInt8)):Ob:= .row 9 1 (List.map oV x)
abbrev Zd:=λl q w z B=>([(10000,(.box 84 [(eT l),(er q),(dc w),(.row 10001),(dK z)])),(10001,(ud B))]:List (Nat×Ob))
abbrev Xx:=λl q w z B=>([(10000,(.box 257 [(eT l),(er q),(.row 20001),(.row 20002),(.row 20003)])),(20001,(dY w)),(20002,(dY z)),(20003,(nY B))]:List (Nat×Ob))
abbrev Vw:=λl q w z B D=>([(10000,(.box 68 [(.ptr 10002 0)])),(10001,(.box 107 [(eL l)])),(10002,(.box 84 [(eT q),(er w),(dc z),(.row 10003),(dK B)])),(10003,(ud D))]:List (Nat×Ob))
abbrev tl3:=λl q w z B=>([(10000,(.box 68 [(.ptr 10001 0)])),(10001,(.box 84 [(eT l),(er q),(dc w),(.row 10002),(dK z)])),(10002,(ud B))]:List (Nat×Ob))
abbrev tl4:=λl q w z B D F=>([(10000,(.box 254 [(.ptr 10004 0)])),(10001,(.box 107 [(.row 20005)])),(10002,(.box 30 [(.row 20006)])),(10003,(.box 277 [(.cl 219 [.p 10000, .p 10001, .p 10002, .p 10003])])),(10004,(.box 257 [(eT l),(er q),(.row 20007),(.row 20008),(.row 20009)])),(20005,(dY w)),(20006,(dV z)),(20007,(dY B)),(20008,(dY D)),(20009,(nY F))]:List (Nat×Ob))
abbrev tl5:=λl q w z=>([(10000,(.box 184 [(eT l),(er q),(.row 20001),(.row 20002)])),(20001,(dY w)),(20002,(dY z))]:List (Nat×Ob))
abbrev tl6:=λl q w z B D=>([(10000,(.box 254 [(.ptr 10002 0)])),(10001,(.box 276 [(.row 20003)])),(10002,(.box 257 [(eT l),(er q),(.row 20004),(.row 20005),(.row 20006)])),(20003,(kD w)),(20004,(dY z)),(20005,(dY B)),(20006,(nY D))]:List (Nat×Ob))
abbrev tl7:=λl q w=>([(3,(e8 l)),(4,(e8 q)),(5,(.box 30 [(.row 5080)])),(5080,(dV w))]:List (Nat×Ob))
abbrev tl8:=λl q w=>([(8,(e8 l)),(9,(.box 30 [(.row 5144)])),(5144,(.rn 60 2 1 57 2 (List.map (kj Node.enc 1) q) (oM cB.enc w)))]:List (Nat×Ob))
abbrev tl9:=λl q=>([(10000,(fW l)),(20001,(jC q))]:List (Nat×Ob))
abbrev tl10:=λl q w z B D F G I=>([(2,(dH l)),(3,(e8 q)),(4,(e8 w)),(14,(.box 184 [(eT z),(er B),(.row 5210),(.row 5211)])),(5208,(xF D)),(5209,(qG F)),(5210,(dY G)),(5211,(dY I))]:List (Nat×Ob))
abbrev tl11:=λl q w z B D F G I=>([(6,(Cy l)),(8,(e8 q)),(10,(.box 66 [(uh w),(dK z),(.row 5498)])),(5161,(dV B)),(5162,(Gf D)),(5497,(dV F)),(5498,(Gf G)),(10000,(fW I))]:List (Nat×Ob))
abbrev tl12:=λl q w z=>([(2,(dH l)),(3,(e8 q)),(4,(e8 w)),(6,(dY z))]:List (Nat×Ob))
def jb {T:Type} {E:T->Out} [eO E] {raw:Option Out} {t:Option T} [i:Im E t raw] {f:Nat} {args:List SV} {cL:List (Nat×Ob)} (l:ZC P wj H gL f args cL=raw:=by kernel_rfl) (q:gL f args cL=none:=by rfl):Lt (dec E (run P H gL f args cL)) t:=
 λw=>qo w i.p l λh=>pI (C:=wj) q h
def jh {T:Type} {E:T->Out} [eO E] {raw:Option Out} {t:Option T} [i:Im E t raw] {f key:Nat} {names:List Nat} {l:List (Nat×SV)} {q:List (Nat×Ob)} (w:Vl P wj H gL f key names l q=raw:=by kernel_rfl):Lt (dec E (zX P wj H gL f key names l q)) t:=
 λz=>qo z i.p w λh=>lg h
