/- The types and codecs of the program, by program (decomp4.py). -/
import Derived.Test.YthppjmoncapdfaaGreatDoorProg
import Derived.Test.YthppjmoncapdfaaGreatDoorAmI
import Derived.KernelRfl
set_option linter.all false
set_option maxRecDepth 100000
namespace Go.Proofs.YthppjmoncapdfaaGreatDoor.cl
open Go Go.AM
noncomputable abbrev P:Program:=Tryz.prog
theorem Um {l q:Type} {f:l->q} (h:∀a b,f a=f b->a=b:=by
 intro a b h
 (iterate 6 (try injections))<;>first
 |assumption
 |exact map_inj gI.inj _ _ ‹_›
 |(cases a;cases b;congr<;>first|assumption|exact map_inj gI.inj _ _ ‹_› |exact yg ‹_› ‹_›)):gI f:=⟨h⟩
theorem mkK {K:rU} [DecidableEq K.T] (h:∀a b,vF (K.enc a) (K.enc b)=some (decide (a=b)):=by
 intro a b;simp only[vF,fQ]
 first|rfl|(congr 1;first|rfl|(rw[jk];simp))):Gh K:=⟨λa b=>⟨inferInstance,h a b⟩⟩
def strOf:AV->List UInt8
 | .str s=>s
 |_=>[]
def isStr:AV->Bool
 | .str _=>true
 |_=>false
def Ac:List AV->List UInt8
 |[a]=>strOf a
 |_=>[]
def FG:List AV->Bool
 |[a]=>isStr a
 |_=>false
def SP (xs:List (List AV)) (l:List AV):Bool:=xs.all FG&&l.all isStr&&Nat.ble (xs.length+l.length) 1073741824
def blkR (xs:List (List AV)) (l:List AV):List (List AV):=(lC Op.bytesLess (xs.map Ac++l.map strOf)).map jr
def Qe (l:St):Bool:=match l.env 0,l.env 3,l.ob 10000 with
 |some (.ptr 10000 0),some (.row 15),some (.box 171 [.pv _, .pv _, .row 10001, .row 20002, .row 20003, .row 20004])=>match l.ob 15,l.ob 20002,l.ob 10001,l.ob 20003,l.ob 20004 with
  |some (.mp 9 4 q _),some (.row 9 1 xs),some (.mp 9 3 _ _),some (.row 3 1 _),some (.row 114 1 _)=>SP xs q
  |_,_,_,_,_=>false
 |_,_,_=>false
def Qd (l:St):Nat×St:=match l.ob 15,l.ob 20002,l.ob 10000,l.ob 10001,l.ob 20003,l.ob 20004 with
 |some (.mp _ _ q _),some (.row _ _ xs),some w,some z,some B,some D=>(1,{ env:=find [(2, .pv (.int .i64 0))],ob:=find [(10000,w),(10001,z),(20002, .row 9 1 (blkR xs q)),(20003,B),(20004,D)] })
 |_,_,_,_,_,_=>(1,l)
def Zg (V:rU) {X:List (List UInt8)} {Y:List (List UInt8×V.T)} (h:X.length+Y.length<=1073741824):SP (X.map jr) (dN ⟨List UInt8,AV.str⟩ V Y).1=true:=by
 unfold SP;simp only[aI,cv,aC];refine⟨⟨?_,?_⟩,?_⟩
 .rintro _ ⟨x,_,rfl⟩;rfl
 .intro a l;simp only[dN,aC] at l;obtain⟨p,_,rfl⟩:=l;rfl
 .rw[Nat.ble_eq];simpa[dN] using h
def Zi {V:rU} (X:List (List UInt8)) (Y:List (List UInt8×V.T)):blkR (X.map jr) (dN ⟨List UInt8,AV.str⟩ V Y).1=(lC Op.bytesLess (X++Y.map Prod.fst)).map jr:=by
 unfold blkR;have e1:(X.map jr).map Ac=X:=by rw[eS];exact(gR (λx _=>rfl)).trans (jT X)
 have l:(dN ⟨List UInt8,AV.str⟩ V Y).1.map strOf=Y.map Prod.fst:=by simp only[dN,eS];exact gR (λx _=>rfl)
 rw[e1,l]
abbrev V3:rU:=⟨Int,AV.int .i64⟩
instance:gI V3.enc:=Um
instance:Gh V3:=mkK
abbrev V4:rU:=⟨Bool,AV.bool⟩
instance:gI V4.enc:=Um
instance:Gh V4:=mkK
abbrev V9:rU:=⟨List UInt8,AV.str⟩
instance:gI V9.enc:=Um
instance:Gh V9:=mkK
structure bX where
 aS:Int
 To:Int
 deriving Inhabited
def bX.enc (x:bX):List AV:=[.int .i64 x.aS, .int .i64 x.To]
instance:gI bX.enc:=Um
structure Node where
 cO:Int
 bC:List bX
 deriving Inhabited
def Node.enc (x:Node):List AV:=[.int .i64 x.cO, .dH 2 (List.map bX.enc x.bC)]
instance:gI Node.enc:=Um
structure FSt where
 aj:List Node
 deriving Inhabited
def FSt.enc (x:FSt):List AV:=[.dH 2 (List.map Node.enc x.aj)]
instance:gI FSt.enc:=Um
structure bS where
 aS:List UInt8
 Value:List UInt8
 deriving Inhabited
def bS.enc (x:bS):List AV:=[.str x.aS, .str x.Value]
instance:gI bS.enc:=Um
structure aA where
 Name:List UInt8
 dG:List (List UInt8)
 cD:List bS
 deriving Inhabited
def aA.enc (x:aA):List AV:=[.str x.Name, .dH 1 (List.map jr x.dG), .dH 2 (List.map bS.enc x.cD)]
instance:gI aA.enc:=Um
structure c8 where
 aS:Int
 Value:Int
 deriving Inhabited
def c8.enc (x:c8):List AV:=[.int .i64 x.aS, .int .i64 x.Value]
instance:gI c8.enc:=Um
structure gK where
 Name:List UInt8
 Code:List Int
 dG:List Int
 cD:List c8
 deriving Inhabited
def gK.enc (x:gK):List AV:=[.str x.Name, .dH 1 (List.map (bZ .u64) x.Code), .dH 1 (List.map (bZ .i64) x.dG), .dH 2 (List.map c8.enc x.cD)]
instance:gI gK.enc:=Um
structure c4 where
 Name:List UInt8
 Intro:Int
 deriving Inhabited
def c4.enc (x:c4):List AV:=[.str x.Name, .int .i64 x.Intro]
instance:gI c4.enc:=Um
structure bQ where
 Types:List gK
 cD:List c4
 deriving Inhabited
def bQ.enc (x:bQ):List AV:=[.dH 4 (List.map gK.enc x.Types), .dH 2 (List.map c4.enc x.cD)]
instance:gI bQ.enc:=Um
structure fe where
 A:List Int
 B:List Int
 deriving Inhabited
def fe.enc (x:fe):List AV:=[.dH 1 (List.map (bZ .i64) x.A), .dH 1 (List.map (bZ .i64) x.B)]
instance:gI fe.enc:=Um
structure result where
 h:bQ
 f:FSt
 deriving Inhabited
def result.enc (x:result):List AV:=[.dH 4 (List.map gK.enc x.h.Types), .dH 2 (List.map c4.enc x.h.cD), .dH 2 (List.map Node.enc x.f.aj)]
def result.inj:∀(a b:result),result.enc a=result.enc b->a=b:=by intro a b h;obtain⟨L,K⟩:=a;obtain⟨w,q⟩:=L;obtain⟨l⟩:=K;obtain⟨O,N⟩:=b;obtain⟨D,B⟩:=O;obtain⟨z⟩:=N;simp only[result.enc,dM,AV.int.injEq,AV.str.injEq,AV.bool.injEq,AV.dH.injEq,AV.mp.injEq,gB,fD] at h;obtain⟨F,G,I⟩:=h;replace F:=map_inj gI.inj _ _ F;replace G:=map_inj gI.inj _ _ G;replace I:=map_inj gI.inj _ _ I;change w=D at F;change q=B at G;change l=z at I;subst F G I;rfl
instance:gI result.enc:=⟨result.inj⟩
structure dX where
 Name:List UInt8
 Code:List Int
 deriving Inhabited
def dX.enc (x:dX):List AV:=[.str x.Name, .dH 1 (List.map (bZ .u64) x.Code)]
instance:gI dX.enc:=Um
structure dh where
 a0:Int
 a1:Int
 deriving Inhabited
def dh.enc (x:dh):List AV:=[.int .i64 x.a0, .int .i64 x.a1]
instance:gI dh.enc:=Um
structure table where
 d:List aA
 codes:List dX
 number:List ((List UInt8)×Int)
 ZZ:List (List UInt8)
 intro:List Int
 values:List (List c8)
 deriving Inhabited
def table.enc (x:table):List AV:=[.dH 3 (List.map aA.enc x.d), .dH 2 (List.map dX.enc x.codes), .mp (dN V9 V3 x.number).1 (dN V9 V3 x.number).2, .dH 1 (List.map jr x.ZZ), .dH 1 (List.map (bZ .i64) x.intro), .dH 1 (List.map (gU 2 c8.enc) x.values)]
def table.inj:∀(a b:table),table.enc a=table.enc b->a=b:=by intro a b h;obtain⟨ad,B,l,D,F,q⟩:=a;obtain⟨bd,G,w,I,K,z⟩:=b;simp only[table.enc,dM,AV.int.injEq,AV.str.injEq,AV.bool.injEq,AV.dH.injEq,AV.mp.injEq,gB,fD] at h;obtain⟨N,O,L,Q,R,S⟩:=h;replace N:=map_inj gI.inj _ _ N;replace O:=map_inj gI.inj _ _ O;replace L:=yg (K:=V9) (V:=V3) L.1 L.2;replace Q:=map_inj gI.inj _ _ Q;replace R:=map_inj gI.inj _ _ R;replace S:=map_inj gI.inj _ _ S;change ad=bd at N;change B=G at O;change l=w at L;change D=I at Q;change F=K at R;change q=z at S;subst N O L Q R S;rfl
instance:gI table.enc:=⟨table.inj⟩
abbrev C52:Ff:=⟨Node,Node.enc⟩
abbrev C24:Ff:=⟨FSt,FSt.enc⟩
abbrev C90:Ff:=⟨aA,aA.enc⟩
abbrev C116:Ff:=⟨gK,gK.enc⟩
abbrev C155:Ff:=⟨c4,c4.enc⟩
abbrev C65:Ff:=⟨fe,fe.enc⟩
abbrev C54:Ff:=⟨bX,bX.enc⟩
abbrev C60:Ff:=⟨List (Int),(gU 1 (bZ .i64))⟩
abbrev C3:Ff:=⟨Int,(bZ .i64)⟩
abbrev C9:Ff:=⟨List UInt8,jr⟩
abbrev C93:Ff:=⟨bS,bS.enc⟩
abbrev C50:Ff:=⟨List (bX),(gU 2 bX.enc)⟩
abbrev C4:Ff:=⟨Bool,qD⟩
abbrev C114:Ff:=⟨List (c8),(gU 2 c8.enc)⟩
abbrev C112:Ff:=⟨dX,dX.enc⟩
abbrev C164:Ff:=⟨Int,(bZ .u64)⟩
abbrev C128:Ff:=⟨c8,c8.enc⟩
abbrev C137:Ff:=⟨dh,dh.enc⟩
abbrev C110:Ff:=⟨List (Int),(gU 1 (bZ .u64))⟩
abbrev C5:Ff:=⟨Int,(bZ .u8)⟩
abbrev C74:Ff:=⟨result,result.enc⟩
abbrev V87:rU:=⟨List (List UInt8),pL 1 jr⟩
abbrev Pv:rU:=⟨List Int,pL 1 (bZ .u64)⟩
abbrev Q0:=AV.bool
abbrev Q1:=pL 1 FSt.enc
abbrev Q2:=pA bQ.enc
abbrev Q3:=pA FSt.enc
abbrev Q4:=pL 2 fe.enc
abbrev Q5:=AV.int .i64
abbrev Q6:=pL 1 (gU 1 (bZ .i64))
abbrev Q7:=pP (pA bQ.enc) (AV.int .i64)
abbrev Q8:=pL 3 aA.enc
abbrev Q9:=pP (pA FSt.enc) (AV.bool)
abbrev Q10:=pP (pA FSt.enc) (AV.int .i64)
abbrev Q11:=pP (pL 1 (bZ .i64)) (AV.bool)
abbrev Q12:=pP (pL 1 (gU 2 c8.enc)) (AV.int .i64)
abbrev Q13:=pP (pL 2 dX.enc) (AV.int .i64)
abbrev Q14:=pA aA.enc
abbrev Q15:=pL 1 (bZ .i64)
abbrev Q16:=pL 1 jr
abbrev Q17:=pP (pL 2 c4.enc) (AV.int .i64)
abbrev Q18:=pU
abbrev Q19:=pP (AV.int .i64) (AV.bool)
abbrev Q20:=AV.str
abbrev Q21:=pL 1 (bZ .u64)
abbrev Q22:=pL 1 (gU 1 (bZ .u64))
abbrev Q23:=pL 2 Node.enc
abbrev Q24:=pW 3 1 (bZ .i64)
abbrev Q25:=pP (AV.str) (AV.bool)
abbrev Q26:=pP (pL 1 (bZ .u64)) (AV.bool)
abbrev Q27:=pW 52 2 Node.enc
abbrev Q28:=pW 54 2 bX.enc
abbrev Q29:=pP (Tp table.enc) (AV.int .i64)
abbrev Q30:=pP (pL 1 jr) (pL 1 (gU 1 (bZ .u64)))
abbrev Q31:=pP (pL 1 (gU 1 (bZ .u64))) (AV.bool)
abbrev Q32:=pP (pL 1 (bZ .u64)) (AV.int .i64)
abbrev Q33:=pF 214 bX.enc
abbrev Q34:=AV.int .u64
abbrev Q35:=pM V9.enc V87.enc
abbrev Q36:=pM V9.enc Pv.enc
abbrev Q37:=AV.self
abbrev R392.T:Type:=Bool
abbrev R393.T:Type:=Bool
abbrev R394.T:Type:=Bool
abbrev R395.T:Type:=Bool
abbrev R396.T:Type:=Bool
abbrev R397.T:Type:=Bool
abbrev R398.T:Type:=Bool
abbrev R399.T:Type:=Bool
abbrev R402.T:Type:=Bool
abbrev R400.T:Type:=List FSt
abbrev R401.T:Type:=List FSt
abbrev R403.T:Type:=bQ
abbrev R404.T:Type:=Bool
abbrev R407.T:Type:=Bool
abbrev R405.T:Type:=FSt
abbrev R406.T:Type:=FSt
abbrev R419.T:Type:=FSt×Bool
abbrev R412.T:Type:=Bool
abbrev R408.T:Type:=Bool
abbrev R409.T:Type:=List fe
abbrev R420.T:Type:=FSt×Bool
abbrev R410.T:Type:=Int
abbrev R411.T:Type:=Int
abbrev R413.T:Type:=Bool
abbrev R421.T:Type:=FSt×Int
abbrev R414.T:Type:=FSt
abbrev R415.T:Type:=List (List Int)
abbrev R426.T:Type:=FSt
abbrev R425.T:Type:=FSt
abbrev R428.T:Type:=bQ
abbrev R427.T:Type:=Int
abbrev R429.T:Type:=List fe
abbrev R438.T:Type:=FSt×Bool
abbrev R416.T:Type:=List (List Int)
abbrev R430.T:Type:=FSt
abbrev R439.T:Type:=FSt
abbrev R332.T:Type:=bQ×Int
abbrev R327.T:Type:=List aA
abbrev R417.T:Type:=Int
abbrev R418.T:Type:=Int
abbrev R483.T:Type:=Bool
abbrev R431.T:Type:=FSt×Bool
abbrev R433.T:Type:=FSt×Bool
abbrev R434.T:Type:=FSt×Bool
abbrev R423.T:Type:=(List Int)×Bool
abbrev R445.T:Type:=Bool
abbrev R422.T:Type:=Int
abbrev R355.T:Type:=Int×Bool
abbrev R339.T:Type:=Bool
abbrev R435.T:Type:=Int
abbrev R436.T:Type:=FSt
abbrev R447.T:Type:=List UInt8
abbrev R331.T:Type:=bQ×Int
abbrev R460.T:Type:=List Int
abbrev R484.T:Type:=Bool
abbrev R442.T:Type:=Unit
abbrev R443.T:Type:=Bool
abbrev R444.T:Type:=FSt
abbrev R468.T:Type:=Int
abbrev R323.T:Type:=(List (List c8))×Int
abbrev R15.T:Type:=(List dX)×Int
abbrev R28.T:Type:=List Int
abbrev R320.T:Type:=(List c4)×Int
abbrev R351.T:Type:=aA
abbrev R356.T:Type:=Int×Bool
abbrev R340.T:Type:=Bool
abbrev R432.T:Type:=List Int
abbrev R440.T:Type:=FSt×Bool
abbrev R441.T:Type:=FSt×Bool
abbrev R461.T:Type:=Bool
abbrev R462.T:Type:=List Node
abbrev R466.T:Type:=Int
abbrev R437.T:Type:=FSt×Int
abbrev R446.T:Type:=Bool
abbrev R63.T:Type:=Bool
abbrev R454.T:Type:=Int
abbrev R455.T:Type:=Unit
abbrev R463.T:Type:=List bX
abbrev R459.T:Type:=List UInt8
abbrev R319.T:Type:=(List c4)×Int
abbrev R322.T:Type:=(List (List c8))×Int
abbrev R14.T:Type:=(List dX)×Int
abbrev R27.T:Type:=List Int
abbrev R486.T:Type:=Bool
abbrev R335.T:Type:=Int×Bool
abbrev R485.T:Type:=Int
abbrev R487.T:Type:=Int
abbrev R318.T:Type:=Int
abbrev R345.T:Type:=List (List UInt8)
abbrev R370.T:Type:=(List Int)×Bool
abbrev R19.T:Type:=Int
abbrev R32.T:Type:=Int
abbrev R52.T:Type:=List (List UInt8)
abbrev R53.T:Type:=List Int
abbrev R54.T:Type:=List (List Int)
abbrev R55.T:Type:=List UInt8
abbrev R56.T:Type:=Bool
abbrev R25.T:Type:=Bool
abbrev R357.T:Type:=(List UInt8)×Bool
abbrev R358.T:Type:=Int
abbrev R65.T:Type:=Bool
abbrev R448.T:Type:=List Node
abbrev R451.T:Type:=List Int
abbrev R450.T:Type:=List Int
abbrev R449.T:Type:=List Int
abbrev R452.T:Type:=(List Int)×Bool
abbrev R453.T:Type:=FSt
abbrev R477.T:Type:=Bool
abbrev R471.T:Type:=Bool
abbrev R472.T:Type:=Bool
abbrev R456.T:Type:=Int
abbrev R457.T:Type:=FSt
abbrev R458.T:Type:=Int
abbrev R107.T:Type:=Int
abbrev R344.T:Type:=(Option table)×Int
abbrev R39.T:Type:=Int
abbrev R40.T:Type:=(List (List UInt8))×(List (List Int))
abbrev R41.T:Type:=(List (List Int))×Bool
abbrev R42.T:Type:=Int
abbrev R43.T:Type:=Bool
abbrev R31.T:Type:=Bool
abbrev R44.T:Type:=List Int
abbrev R45.T:Type:=List UInt8
abbrev R46.T:Type:=List (List UInt8)
abbrev R47.T:Type:=Unit
abbrev R478.T:Type:=Int
abbrev R464.T:Type:=Int
abbrev R24.T:Type:=Bool
abbrev R66.T:Type:=Bool
abbrev R67.T:Type:=Bool
abbrev R29.T:Type:=List Int
abbrev R353.T:Type:=Int
abbrev R371.T:Type:=Bool
abbrev R346.T:Type:=Int
abbrev R98.T:Type:=List (List UInt8)
abbrev R373.T:Type:=(List UInt8)×Bool
abbrev R61.T:Type:=List Int
abbrev R60.T:Type:=List Int
abbrev R57.T:Type:=Bool
abbrev R70.T:Type:=Int
abbrev R71.T:Type:=Int
abbrev R72.T:Type:=Int
abbrev R73.T:Type:=List (List UInt8)
abbrev R99.T:Type:=List (List UInt8)
abbrev R37.T:Type:=Bool
abbrev R100.T:Type:=(List Int)×Int
abbrev R101.T:Type:=Bool
abbrev R102.T:Type:=Bool
abbrev R103.T:Type:=Bool
abbrev R104.T:Type:=List (List UInt8)
abbrev R105.T:Type:=Int
abbrev R108.T:Type:=List Int
abbrev R491.T:Type:=Int×Bool
abbrev R336.T:Type:=Int×Bool
abbrev R476.T:Type:=Int×Bool
abbrev R488.T:Type:=Unit
abbrev R490.T:Type:=List bX
abbrev R489.T:Type:=List bX
abbrev R465.T:Type:=Int
abbrev R473.T:Type:=Int
abbrev R366.T:Type:=Int
abbrev R375.T:Type:=Bool
abbrev R367.T:Type:=Int
abbrev R368.T:Type:=Int
abbrev R369.T:Type:=Int
abbrev R76.T:Type:=Bool
abbrev R77.T:Type:=Int
abbrev R78.T:Type:=Int
abbrev R79.T:Type:=List (List UInt8)
abbrev R80.T:Type:=Unit
abbrev R81.T:Type:=List (List UInt8)
abbrev R82.T:Type:=Int×Bool
abbrev R83.T:Type:=(List Int)×Int
abbrev R84.T:Type:=Unit
abbrev R85.T:Type:=List UInt8
abbrev R86.T:Type:=Int
abbrev R90.T:Type:=List (List UInt8)
abbrev R75.T:Type:=List ((List UInt8)×(List (List UInt8)))
abbrev R74.T:Type:=List (List UInt8)
abbrev R91.T:Type:=Bool
abbrev R92.T:Type:=Bool
abbrev R93.T:Type:=Bool
abbrev R469.T:Type:=Bool
abbrev R97.T:Type:=Bool
abbrev R109.T:Type:=Int
abbrev R68.T:Type:=List Int
abbrev R372.T:Type:=Bool
abbrev R106.T:Type:=Int
abbrev R110.T:Type:=Bool
abbrev R111.T:Type:=Int
abbrev R112.T:Type:=Bool
abbrev R137.T:Type:=List (List UInt8)
abbrev R138.T:Type:=List (List UInt8)
abbrev R139.T:Type:=List Int
abbrev R354.T:Type:=Int×Bool
abbrev R479.T:Type:=Int
abbrev R482.T:Type:=Int
abbrev R380.T:Type:=Bool
abbrev R381.T:Type:=Bool
abbrev R388.T:Type:=Bool
abbrev R376.T:Type:=List Int
abbrev R382.T:Type:=Bool
abbrev R390.T:Type:=Bool
abbrev R377.T:Type:=List ((List UInt8)×(List Int))
abbrev R18.T:Type:=Int
abbrev R113.T:Type:=Bool
abbrev R114.T:Type:=Bool
abbrev R115.T:Type:=Bool
abbrev R116.T:Type:=List UInt8
abbrev R117.T:Type:=Nat
abbrev R118.T:Type:=Bool
abbrev R120.T:Type:=Bool
abbrev R121.T:Type:=Bool
abbrev R124.T:Type:=Nat
abbrev R125.T:Type:=Int
abbrev R126.T:Type:=Int
abbrev R140.T:Type:=Bool
abbrev R142.T:Type:=Bool
abbrev R387.T:Type:=Bool
abbrev R384.T:Type:=Int
abbrev R389.T:Type:=Bool
abbrev R385.T:Type:=Unit
abbrev R383.T:Type:=List Int
abbrev R58.T:Type:=Int
abbrev R59.T:Type:=Bool
abbrev R141.T:Type:=Int
abbrev R143.T:Type:=Bool
abbrev R159.T:Type:=Bool
abbrev R160.T:Type:=Bool
abbrev R161.T:Type:=Bool
abbrev R166.T:Type:=Bool
abbrev R167.T:Type:=Bool
def elems:List (Nat×Ff):=[(52,C52),(24,C24),(90,C90),(116,C116),(155,C155),(65,C65),(54,C54),(60,C60),(3,C3),(9,C9),(93,C93),(50,C50),(4,C4),(114,C114),(112,C112),(164,C164),(128,C128),(137,C137),(110,C110),(5,C5),(74,C74)]
def vals:List (Nat×rU):=[(3,V3),(4,V4),(9,V9),(87,V87),(110,Pv)]
def acS:List (Nat×rU):=[(3,⟨_,Q0⟩),(4,⟨_,Q0⟩),(5,⟨_,Q0⟩),(6,⟨_,Q0⟩),(7,⟨_,Q0⟩),(8,⟨_,Q0⟩),(9,⟨_,Q0⟩),(10,⟨_,Q0⟩),(11,⟨_,Q0⟩),(12,⟨_,Q1⟩),(13,⟨_,Q1⟩),(14,⟨_,Q2⟩),(15,⟨_,Q0⟩),(16,⟨_,Q0⟩),(17,⟨_,Q3⟩),(18,⟨_,Q3⟩),(19,⟨_,Q9⟩),(20,⟨_,Q0⟩),(21,⟨_,Q0⟩),(22,⟨_,Q4⟩),(23,⟨_,Q9⟩),(24,⟨_,Q5⟩),(25,⟨_,Q5⟩),(26,⟨_,Q0⟩),(27,⟨_,Q10⟩),(28,⟨_,Q3⟩),(29,⟨_,Q6⟩),(30,⟨_,Q3⟩),(31,⟨_,Q3⟩),(32,⟨_,Q2⟩),(33,⟨_,Q5⟩),(34,⟨_,Q4⟩),(35,⟨_,Q9⟩),(36,⟨_,Q6⟩),(37,⟨_,Q3⟩),(38,⟨_,Q3⟩),(39,⟨_,Q7⟩),(40,⟨_,Q8⟩),(41,⟨_,Q5⟩),(42,⟨_,Q5⟩),(43,⟨_,Q0⟩),(44,⟨_,Q9⟩),(45,⟨_,Q9⟩),(46,⟨_,Q9⟩),(47,⟨_,Q11⟩),(48,⟨_,Q0⟩),(49,⟨_,Q5⟩),(50,⟨_,Q19⟩),(51,⟨_,Q0⟩),(52,⟨_,Q5⟩),(53,⟨_,Q3⟩),(55,⟨_,Q20⟩),(56,⟨_,Q7⟩),(57,⟨_,Q24⟩),(58,⟨_,Q0⟩),(59,⟨_,Q18⟩),(60,⟨_,Q0⟩),(61,⟨_,Q3⟩),(62,⟨_,Q5⟩),(63,⟨_,Q12⟩),(64,⟨_,Q13⟩),(65,⟨_,Q15⟩),(66,⟨_,Q17⟩),(67,⟨_,Q14⟩),(68,⟨_,Q19⟩),(69,⟨_,Q0⟩),(70,⟨_,Q15⟩),(71,⟨_,Q9⟩),(72,⟨_,Q9⟩),(73,⟨_,Q0⟩),(74,⟨_,Q27⟩),(75,⟨_,Q5⟩),(76,⟨_,Q10⟩),(77,⟨_,Q0⟩),(78,⟨_,Q0⟩),(79,⟨_,Q5⟩),(80,⟨_,Q18⟩),(81,⟨_,Q28⟩),(83,⟨_,Q20⟩),(84,⟨_,Q17⟩),(85,⟨_,Q12⟩),(86,⟨_,Q13⟩),(87,⟨_,Q15⟩),(88,⟨_,Q0⟩),(89,⟨_,Q19⟩),(90,⟨_,Q5⟩),(91,⟨_,Q5⟩),(92,⟨_,Q5⟩),(93,⟨_,Q16⟩),(94,⟨_,Q26⟩),(95,⟨_,Q5⟩),(96,⟨_,Q5⟩),(97,⟨_,Q16⟩),(98,⟨_,Q21⟩),(99,⟨_,Q22⟩),(100,⟨_,Q20⟩),(101,⟨_,Q0⟩),(102,⟨_,Q0⟩),(103,⟨_,Q25⟩),(104,⟨_,Q5⟩),(105,⟨_,Q0⟩),(106,⟨_,Q23⟩),(107,⟨_,Q15⟩),(108,⟨_,Q15⟩),(109,⟨_,Q24⟩),(110,⟨_,Q11⟩),(111,⟨_,Q3⟩),(112,⟨_,Q0⟩),(113,⟨_,Q0⟩),(114,⟨_,Q0⟩),(115,⟨_,Q5⟩),(116,⟨_,Q3⟩),(117,⟨_,Q5⟩),(118,⟨_,Q34⟩),(120,⟨_,Q29⟩),(121,⟨_,Q5⟩),(122,⟨_,Q30⟩),(123,⟨_,Q31⟩),(124,⟨_,Q5⟩),(125,⟨_,Q0⟩),(126,⟨_,Q0⟩),(127,⟨_,Q15⟩),(128,⟨_,Q20⟩),(129,⟨_,Q16⟩),(130,⟨_,Q18⟩),(132,⟨_,Q5⟩),(133,⟨_,Q5⟩),(136,⟨_,Q0⟩),(137,⟨_,Q0⟩),(138,⟨_,Q0⟩),(139,⟨_,Q21⟩),(140,⟨_,Q5⟩),(141,⟨_,Q0⟩),(142,⟨_,Q5⟩),(143,⟨_,Q16⟩),(144,⟨_,Q25⟩),(145,⟨_,Q21⟩),(146,⟨_,Q21⟩),(147,⟨_,Q0⟩),(148,⟨_,Q5⟩),(149,⟨_,Q5⟩),(150,⟨_,Q5⟩),(151,⟨_,Q16⟩),(152,⟨_,Q16⟩),(153,⟨_,Q0⟩),(154,⟨_,Q32⟩),(155,⟨_,Q0⟩),(156,⟨_,Q0⟩),(157,⟨_,Q0⟩),(158,⟨_,Q16⟩),(159,⟨_,Q5⟩),(160,⟨_,Q21⟩),(161,⟨_,Q19⟩),(162,⟨_,Q19⟩),(163,⟨_,Q19⟩),(164,⟨_,Q18⟩),(165,⟨_,Q28⟩),(166,⟨_,Q33⟩),(168,⟨_,Q5⟩),(169,⟨_,Q5⟩),(171,⟨_,Q5⟩),(172,⟨_,Q0⟩),(173,⟨_,Q5⟩),(174,⟨_,Q5⟩),(175,⟨_,Q5⟩),(176,⟨_,Q0⟩),(177,⟨_,Q5⟩),(178,⟨_,Q5⟩),(179,⟨_,Q16⟩),(180,⟨_,Q18⟩),(181,⟨_,Q16⟩),(182,⟨_,Q19⟩),(183,⟨_,Q32⟩),(184,⟨_,Q18⟩),(185,⟨_,Q20⟩),(186,⟨_,Q5⟩),(190,⟨_,Q16⟩),(191,⟨_,Q35⟩),(192,⟨_,Q16⟩),(193,⟨_,Q0⟩),(194,⟨_,Q0⟩),(195,⟨_,Q0⟩),(198,⟨_,Q0⟩),(200,⟨_,Q0⟩),(201,⟨_,Q5⟩),(202,⟨_,Q21⟩),(203,⟨_,Q0⟩),(204,⟨_,Q34⟩),(205,⟨_,Q0⟩),(206,⟨_,Q5⟩),(207,⟨_,Q0⟩),(208,⟨_,Q16⟩),(209,⟨_,Q16⟩),(210,⟨_,Q15⟩),(211,⟨_,Q19⟩),(215,⟨_,Q5⟩),(216,⟨_,Q5⟩),(221,⟨_,Q0⟩),(222,⟨_,Q0⟩),(223,⟨_,Q0⟩),(224,⟨_,Q15⟩),(225,⟨_,Q0⟩),(226,⟨_,Q0⟩),(227,⟨_,Q36⟩),(228,⟨_,Q5⟩),(229,⟨_,Q0⟩),(230,⟨_,Q0⟩),(231,⟨_,Q0⟩),(232,⟨_,Q20⟩),(233,⟨_,Q37⟩),(234,⟨_,Q0⟩),(236,⟨_,Q0⟩),(237,⟨_,Q0⟩),(240,⟨_,Q37⟩),(241,⟨_,Q5⟩),(242,⟨_,Q5⟩),(253,⟨_,Q0⟩),(260,⟨_,Q0⟩),(261,⟨_,Q0⟩),(262,⟨_,Q5⟩),(263,⟨_,Q0⟩),(264,⟨_,Q18⟩),(265,⟨_,Q21⟩),(266,⟨_,Q5⟩),(267,⟨_,Q0⟩),(268,⟨_,Q5⟩),(269,⟨_,Q0⟩),(285,⟨_,Q0⟩),(286,⟨_,Q0⟩),(296,⟨_,Q0⟩),(301,⟨_,Q0⟩),(302,⟨_,Q0⟩)]
def nJ:lX:={ elem:=Bl elems,val:=Bl vals,res:=Bl acS,ptr:=some ⟨table,table.enc⟩ }
def eG:List Nat:=[10000,10001,10002,10003,10004,10005,10006,10007,10008,20000,20001,20002,20003,20004,20005,20006,20007,20008,20009,20010,20011]
def hints:List (Nat×Hint):=[
 (5,{ loops:=[(8,[2,4,7,8,9],[4,7,8])] }),
 (6,{ loops:=[(8,[2,4,7,8,9,10,11],[4,7,8,9])] }),
 (7,{ loops:=[(8,[3,5,6,7],[3,5])] }),
 (8,{ loops:=[(8,[2,7,8,9],[7,8]),(12,[2,7,8,9,10,11],[7,8])] }),
 (9,{ loops:=[(4,[1,3],[1]),(9,[1,3,4],[1])] }),
 (11,{ loops:=[(4,[0,1,5],[])] }),
 (12,{ loops:=[(3,[1,3,12,13,14],[1,3]),(9,[3,6,36,37,38],[3,6])],rows:=[3] }),
 (13,{ loops:=[(4,[1,3,4,5],[1,3]),(9,[3,6,7],[3])],rows:=[3] }),
 (15,{ loops:=[(4,[2,3,7],[3])] }),
 (17,{ loops:=[(4,[6,7,8,19,20,21],[6,16]),(8,[6,7,8,19,20,21,29,30,31],[6,16])],jP:=[18],bx:=[16] }),
 (18,{ loops:=[(3,[2,3,6,7,8],[3,4,6,7,9,13]),(10,[2,3,6,7,8,11,12],[3,4,6,7,9,13])] }),
 (22,{ loops:=[(4,[1,3,4,5],[1,4]),(8,[1,3,4,5,6,7],[1,4])],rows:=[4,30],mq:=[8] }),
 (23,{ loops:=[(5,[2,4,6,19,20,21],[2,4,6,9])] }),
 (24,{ loops:=[(5,[2,3,5,7],[2,3,5]),(11,[2,3,5,7,8,9],[2,3,5,8])] }),
 (25,{ loops:=[(5,[2,3,19,20,21],[2,3]),(8,[2,3,7,19,20,21,26,27,28],[2,3,7])] }),
 (26,{ loops:=[(4,[1,3],[1])] }),
 (29,{ rows:=[9] }),
 (30,{ loops:=[(3,[0,3,4,5,13,14,15],[3,4,5,5080,5081,5082,5083,5084,5085]),(8,[0,4,5,33,34,35],[3,4,5,5080,5081,5082,5083,5084,5085]),(12,[0,4,5,10,33,34,35,43,44,45],[3,4,5,9,10,5080,5081,5082,5083,5084,5085,5160,5161,5162,5163,5164,5165,5656,5657,5658,5659,5660,5661])],rows:=[5,10,41],nT:=[(16,[5160,5161,5162,5163,5164,5165,5656,5657,5658,5659,5660,5661]),(18,[5080,5081,5082,5083,5084,5085])] }),
 (32,{ loops:=[(3,[2,3,8,9],[2,3,5,5048,5049,5050,5051,5052,5053,5112,5113,5114,5115,5116,5117])],rows:=[3,7],nT:=[(7,[5048,5049,5050,5051,5052,5053,5112,5113,5114,5115,5116,5117])] }),
 (33,{ loops:=[(3,[3,9,10,11],[1]),(6,[3,9,10,11,16,17,18],[1,5])] }),
 (34,{ loops:=[(4,[3,4,13,14,15],[1,4]),(7,[3,4,5,13,14,15,21,22,23],[1,4,6])],rows:=[4],mq:=[9],stay:=[31,42],owns:=[31] }),
 (35,{ rows:=[22] }),
 (36,{ loops:=[(6,[1,3,4,5,6],[1,12,16,19]),(10,[1,3,4,5,6,7,8],[1,12,16,19])],rows:=[12,16,19,63],use:=[78] }),
 (37,{ loops:=[(3,[0,3,4,5,6],[3,4,5,5080,5081,5082,5083,5084,5085]),(7,[0,3,4,5,7],[3,4,5,5080,5081,5082,5083,5084,5085]),(12,[0,3,4,5,7,8,9,10],[3,4,5,8,5080,5081,5082,5083,5084,5085,5128,5129,5130,5131,5132,5133,5704,5705,5706,5707,5708,5709])],rows:=[5,8,44],nT:=[(15,[5128,5129,5130,5131,5132,5133,5704,5705,5706,5707,5708,5709]),(16,[5080,5081,5082,5083,5084,5085])] }),
 (38,{ loops:=[(4,[0,1,4,5,6],[4,5,10,5080,5081,5082,5083,5084,5085]),(10,[0,1,4,5,7,8],[4,5,10,5080,5081,5082,5083,5084,5085])],rows:=[5,34],nT:=[(19,[5080,5081,5082,5083,5084,5085])],take:=[74,100],nilz:=[(14,[1]),(39,[1]),(87,[1])],nest:=[(5064,1,54,2),(5080,1,54,2),(5160,1,54,2)] }),
 (39,{ loops:=[(7,[0,2,4,6,8,9],[2,8,5128,5129,5130,5131,5132,5133])],rows:=[8],mq:=[4,6],nT:=[(12,[5128,5129,5130,5131,5132,5133])] }),
 (41,{ loops:=[(5,[2,3,6],[2,3]),(9,[2,3,6,7,8],[2,3])] }),
 (42,{ loops:=[(4,[5,6,7],[])] }),
 (45,{ rows:=[10] }),
 (46,{ loops:=[(3,[3,4,6,16,17,18],[2,3,4,10,14,68,5160,5161,5162,5163,5164,5165,5208,5209,5210,5211,5212,5213,6104,6105,6106,6107,6108,6109]),(9,[3,4,6,9],[2,3,4,10,14,68,5160,5161,5162,5163,5164,5165,5208,5209,5210,5211,5212,5213,6104,6105,6106,6107,6108,6109]),(15,[4,6,10,72,73],[2,4,10,14,68,5160,5161,5162,5163,5164,5165,5208,5209,5210,5211,5212,5213,6104,6105,6106,6107,6108,6109])],rows:=[10,13,69],nT:=[(19,[68,5160,5161,5162,5163,5164,5165,6104,6105,6106,6107,6108,6109])],stay:=[68],owns:=[68] }),
 (47,{ loops:=[(3,[3,4,5,8,22,23],[3,4,5,20]),(10,[3,5,8,10,33,34,35],[3,4,5,20]),(16,[3,5,8,10,13,33,34,35,60,61,62],[3,4,5,12,20])],rows:=[20] }),
 (48,{ loops:=[(4,[0,1,5],[])] }),
 (49,{ loops:=[(5,[2,3,5,20,21,22],[2,3,5]),(10,[2,3,5,20,21,22,33,34,35],[2,3,5,8])] }),
 (50,{ loops:=[(2,[2,15,16,17],[3])] }),
 (52,{ loops:=[(6,[1,3],[1])] }),
 (53,{ loops:=[(3,[1,2,4,5,6],[2,4,7,14,5112,5113,5114,5115,5116,5117,5208,5209,5210,5211,5212,5213]),(9,[2,4,5,7,8],[2,4,7,14,5112,5113,5114,5115,5116,5117,5208,5209,5210,5211,5212,5213]),(14,[2,4,5,7,8,9,10,11],[2,4,7,9,14,56,5112,5113,5114,5115,5116,5117,5208,5209,5210,5211,5212,5213])],rows:=[7,13],nT:=[(17,[56]),(18,[5112,5113,5114,5115,5116,5117])],owns:=[56] }),
 (56,{ loops:=[(12,[2,6,7,8,40,41,42],[2,8,5128,5129,5130,5131,5132,5133,5624,5625,5626,5627,5628,5629])],rows:=[8,39],mq:=[4,6,7],nT:=[(16,[5128,5129,5130,5131,5132,5133,5624,5625,5626,5627,5628,5629])] }),
 (57,{ rows:=[2,5],stay:=[7],own:=true }),
 (58,{ loops:=[(4,[0,1,12,13],[])],stay:=[7,9,12] }),
 (59,{ loops:=[(2,[0,4,15,16,17],eG),(8,[0,4,7,15,16,17,46,47,48],[6,7]++eG)],rows:=[7],nT:=[(12,[7])] }),
 (60,{ loops:=[(3,[3,7,8],[3,7,15,5112,5113,5114,5115,5116,5117]++eG)],rows:=[7,15],jP:=[16] }),
 (61,{ loops:=[(3,[1,2,4,5,16,17],[2,4,5,7,14,5080,5081,5082,5083,5084,5085,5112,5113,5114,5115,5116,5117]++eG)],rows:=[5,7,14],jP:=[24],nT:=[(11,[5112,5113,5114,5115,5116,5117])] }),
 (62,{ loops:=[(2,[0,1,5],[])] }),
 (63,{ loops:=[(8,[0,5,7,8,9],[8]),(12,[0,5,7,8,9,10,11],[8,10])],rows:=[8,10],mq:=[5,7,12],nT:=[(17,[10])] }),
 (64,{ loops:=[(7,[0,5,6,7],[6]),(15,[0,5,6,8,9,10],[6]),(19,[0,5,6,8,9,10,11,12],[6,11])],rows:=[6,13],mq:=[5,8,9] }),
 (65,{ loops:=[(3,[0,1,5,6],[5]),(8,[0,1,5,6,7,8],[5])],rows:=[5] }),
 (66,{ loops:=[(8,[0,5,7,8,9],[8])],rows:=[8],mq:=[5,7] }),
 (67,{ loops:=[(5,[2,6,7,8],[6,7,14,5112,5113,5114,5115,5116,5117,5160,5161,5162,5163,5164,5165])],rows:=[7,10,14],nT:=[(8,[14,5112,5113,5114,5115,5116,5117,5160,5161,5162,5163,5164,5165])] }),
 (68,{ loops:=[(3,[2,8,9],[])],mq:=[8] }),
 (70,{ loops:=[(3,[1,3,4],[1,10]),(8,[1,3,4,5,6],[1,10])],rows:=[10] }),
 (71,{ owns:=[20],use:=[20] }),
 (72,{ loops:=[(3,[2,3,4,6,7],[2,3,4,6,13,5208,5209,5210,5211,5212,5213]),(7,[2,3,4,6,8],[2,3,4,6,13,5208,5209,5210,5211,5212,5213]),(10,[2,3,4,6,9,10],[2,3,4,6,13,5208,5209,5210,5211,5212,5213]),(14,[2,3,4,6,9,10,11,12],[2,3,4,6,13,5208,5209,5210,5211,5212,5213]),(21,[3,4,6,13,14],[3,4,6,13,5208,5209,5210,5211,5212,5213])],rows:=[6,13,32],mq:=[9],jP:=[55],nT:=[(24,[5208,5209,5210,5211,5212,5213])] }),
 (73,{ loops:=[(2,[0,2,4,18,19,20],[4]++eG),(8,[0,2,44,45,46],[4]++eG)] }),
 (74,{ rows:=[2,5],stay:=[7],own:=true }),
 (75,{ loops:=[(2,[1,8,9,10],[2])] }),
 (76,{ loops:=[(6,[1,2,18,19,20],[1,2])] }),
 (78,{ loops:=[(2,[1,7,8,9],[])] }),
 (79,{ loops:=[(2,[0,1,5],[]),(7,[0,1,5,6],[])] }),
 (80,{ loops:=[(4,[0,4,5],eG)],mq:=[4],owns:=[36] }),
 (81,{ loops:=[(3,[0,3,4],[3,6]),(6,[0,3,4,5],[3,6])],rows:=[2,3,6],mvs:=[2,3,6],own:=true }),
 (82,{ loops:=[(4,[0,1,3,4,5,6],[12,15,16]++eG),(8,[0,1,3,4,5,6,42,43,44],[12,15,16]++eG)],rows:=[12,15,16],stay:=[68],owns:=[68],use:=[72] }),
 (84,{ loops:=[(6,[4,6,20,21,22],[6])],rows:=[6] }),
 (86,{ loops:=[(10,[0,5,6,9,34,35,36],[9]),(18,[0,5,6,9,12,14,34,35,36,53,54,55],[9,12,14])],rows:=[9,14],mq:=[5,6,7],jP:=[77] }),
 (87,{ loops:=[(3,[1,2,5,6,12,13],[2,5,6]),(9,[2,5,6,30,31,32],[2,5,6])],rows:=[5,6],nT:=[(8,[2])] }),
 (88,{ loops:=[(8,[0,2,3,9,10,11],[11]++eG)],rows:=[11],mq:=[9,10],use:=[150] }),
 (89,{ stay:=[29] }),
 (90,{ loops:=[(1,[0,1],eG)] }),
 (91,{ loops:=[(9,[3,4,7,8,49,50,51],[8]++eG)],rows:=[8],use:=[69] }),
 (92,{ loops:=[(11,[0,3,5,7],[]),(17,[0,3,5,10],[]),(20,[0,3,5,10,11],[])],mq:=[3,5,12] }),
 (93,{ loops:=[(3,[0,3,4],[]),(6,[0,3,4,5],[])],mq:=[3] }),
 (94,{ loops:=[(4,[0,1,2,3,10,11,12],[])],mq:=[11] }),
 (95,{ loops:=[(3,[0,5,6],[])],mq:=[5] }),
 (96,{ loops:=[(12,[0,6,7],[])] }),
 (97,{ loops:=[(3,[0,3,4],[])],mq:=[3] }),
 (98,{ loops:=[(4,[1,7,8,9],[8])],rows:=[8],mq:=[7,10] }),
 (99,{ loops:=[(3,[3,4],[7]),(6,[3,4,5],[7])],rows:=[7],mq:=[6] }),
 (100,{ loops:=[(3,[0,1,2,3,9,10],[9]),(12,[9,11,12],[9])],rows:=[9] }),
 (103,{ loops:=[(3,[0,1,6,7],[])],mq:=[6,10] }),
 (104,{ loops:=[(2,[0,1,5],[])] }),
 (106,{ loops:=[(3,[0,1,5,6],[9]),(7,[0,1,5,6,7,8],[7,9,5112,5113,5114,5115,5116,5117,5368,5369,5370,5371,5372,5373])],rows:=[7,9,23],nT:=[(10,[5112,5113,5114,5115,5116,5117,5368,5369,5370,5371,5372,5373])] }),
 (107,{ loops:=[(5,[0,1,5,6,7,8],[7,20,23]),(11,[5,6,7,9],[7,20,23]),(17,[5,6,7,9,10,11,12],[7,20,23]),(23,[5,6,7,9,10,11,13,14],[7,20,23,112])],rows:=[7,23,112],owns:=[20],use:=[158] }),
 (108,{ loops:=[(5,[7,8,9,10],[29])],rows:=[29] }),
 (109,{ loops:=[(3,[0,3,4],[3])],rows:=[2,3],mvs:=[2,3],own:=true }),
 (110,{ loops:=[(3,[1,2,3,8,9],[3,15]),(10,[1,2,8,12],[15])],rows:=[15] }),
 (111,{ loops:=[(3,[0,1,2,3,8,9,10],[8,9,5144,5145,5146,5147,5148,5149]),(7,[0,1,3,8,9,11],[8,9,5144,5145,5146,5147,5148,5149]),(11,[0,1,3,8,9,11,12,13],[8,9,5144,5145,5146,5147,5148,5149])],rows:=[9],nT:=[(17,[5144,5145,5146,5147,5148,5149])],take:=[79],nilz:=[(29,[1])],nest:=[(5128,1,54,2),(5144,1,54,2)] }),
 (113,{ loops:=[(2,[0,1,5],[])] }),
 (115,{ loops:=[(5,[1,5,13,14,15],[2,11])] }),
 (116,{ loops:=[(8,[2,4,5,8,22,23,24],[2,4,5,6,8,13,20,5096,5097,5098,5099,5100,5101,5128,5129,5130,5131,5132,5133,5336,5337,5338,5339,5340,5341]),(12,[2,4,5,8,9,10,11,22,23,24,38,39],[2,4,5,6,8,13,20,36,5096,5097,5098,5099,5100,5101,5128,5129,5130,5131,5132,5133,5336,5337,5338,5339,5340,5341])],rows:=[6,8,20,21],jP:=[14],nT:=[(16,[36]),(18,[20,5128,5129,5130,5131,5132,5133,5336,5337,5338,5339,5340,5341])],stay:=[35,36],owns:=[36] }),
 (117,{ stay:=[20] }),
 (120,{ loops:=[(6,[4,6,24,25,26],[21,23,5352,5353,5354,5355,5356,5357])],rows:=[22],mq:=[4],nT:=[(8,[8])],stay:=[38] }),
 (121,{ loops:=[(11,[0,5,20,21,22],[])] }),
 (122,{ loops:=[(3,[0,4,15,16,17],[4]),(10,[0,4,7,32,33,34],[4,31]),(14,[0,4,7,8,10,32,33,34,41,42,43],[4,10,31])],rows:=[4,10,31],jP:=[27] }),
 (123,{ loops:=[(5,[5,6,13,14,15],[4,5,11,5080,5081,5082,5083,5084,5085]),(10,[5,6,9],[4,5,11,5080,5081,5082,5083,5084,5085]),(13,[5,6,9,10],[4,5,11,5080,5081,5082,5083,5084,5085])],rows:=[5],mq:=[8],jP:=[12] }),
 (124,{ loops:=[(2,[1,7,8,9],eG)],mq:=[6] }),
 (127,{ loops:=[(3,[3,6,7,8],[3]),(5,[3,4,5,6,7,8],[3])],rows:=[3] }),
 (128,{ loops:=[(12,[0,1,5,39,40,41],[]),(22,[1,8,63,64,65],[8,5128,5129,5130,5131,5132,5133])],rows:=[8] }),
 (129,{ loops:=[(5,[5,6,7,17,18,19],[7])],rows:=[7],mq:=[5] }),
 (130,{ jP:=[7],stay:=[6,11,13] }),
 (132,{ loops:=[(3,[3,6,7,8],[])] }),
 (134,{ loops:=[(3,[3,6,7,8],[])] }),
 (138,{ stay:=[7] }),
 (139,{ loops:=[(3,[0,1,5,14,15],[12])],rows:=[12] }),
 (140,{ loops:=[(2,[0,1,7,8],eG)],stay:=[7,16] }),
 (142,{ loops:=[(3,[0,3,4],[]),(7,[0,3,4,5,6],[]),(12,[0,3,4,5,6,7],[])],mq:=[3,5] }),
 (143,{ loops:=[(3,[0,1,5,6],[5])],rows:=[5] }),
 (144,{ loops:=[(2,[1,2,6],[2])] }),
 (145,{ loops:=[(3,[0,1,5,6],[5])],rows:=[5] }),
 (146,{ loops:=[(2,[0,3],[])],rows:=[18] }),
 (147,{ loops:=[(4,[0,1,5],[])] }),
 (148,{ loops:=[(4,[0,3],[])] }),
 (149,{ loops:=[(2,[0,3],[])] }),
 (150,{ loops:=[(2,[0,3],[]),(6,[0,3,4,5],[])],mq:=[4] }),
 (151,{ loops:=[(3,[0,3,4],[3]),(7,[0,3,4,5,6],[3])],rows:=[3] }),
 (152,{ loops:=[(5,[0,5,6],[15]),(8,[0,5,6,7],[15]),(14,[5,8,9],[15])],rows:=[15],mq:=[8] }),
 (153,{ loops:=[(2,[0,1,5],[])] }),
 (154,{ loops:=[(3,[0,4,5],[6])],rows:=[6] }),
 (155,{ loops:=[(2,[0,1,5],[])] }),
 (158,{ loops:=[(4,[0,5,6,7],[5]),(9,[0,5,6,7,8,9,10],[5])],rows:=[5],mq:=[6,8] }),
 (160,{ loops:=[(3,[0,1,5,6],[5])],rows:=[5] }),
 (161,{ loops:=[(2,[0,1,6],[])] }),
 (163,{ loops:=[(3,[2,8,9],[])] }),
 (164,{ loops:=[(3,[2,4,25,26,27],[25]++eG)],stay:=[24,25],owns:=[25] }),
 (165,{ rows:=[4],jP:=[8],stay:=[7,10],own:=true }),
 (168,{ loops:=[(2,[0,1,2,11,12,13],eG)],stay:=[12,20,29,35,37] }),
 (169,{ stay:=[27] }),
 (170,{ mq:=[8],jP:=[30] }),
 (171,{ loops:=[(2,[0,1,7,8],eG)],stay:=[7,16] }),
 (173,{ loops:=[(3,[0,3,19,20,21],[15]++eG),(6,[0,3,19,20,21,26,27,28],[5,15]++eG),(14,[0,3,43,44,45],[15]++eG),(17,[0,3,9,43,44,45,50,51,52],[9,15]++eG),(29,[0,82],[82]++eG)],jP:=[65,100],stay:=[66,101],blk:=[(28,Qe,Qd)] }),
 (174,{ loops:=[(2,[1,10,11,12],[1]++eG)],jP:=[20],stay:=[18,21] }),
 (175,{ loops:=[(2,[0,15,16],eG),(7,[0,4,5,15,16,25,26,27],[4]++eG)],rows:=[4],mq:=[8],nT:=[(16,[4])],stay:=[21] }),
 (177,{ loops:=[(3,[3,9,10,11],[8])] }),
 (178,{ loops:=[(3,[3,12,13,14],[]),(6,[3,5,12,13,14,19,20,21],[5])],mq:=[8] }),
 (179,{ loops:=[(5,[3,4,5,18,19,20],[5,16,17]),(11,[3,4,5,7,18,19,20,40,41,42],[5,7,16,17]),(17,[3,4,5,10],[5,10,16,17]),(22,[3,4,5,10,71,72,73],[5,10,16,17])],rows:=[5,10,17,46,48],jP:=[62],nT:=[(16,[17])] }),
 (180,{ jP:=[5],stay:=[4,9,10] }),
 (181,{ loops:=[(3,[1,5,15,16,17],[14]),(9,[1,5,7,15,16,17,34,35,36],[7,14])],rows:=[14,30,40,42],mq:=[8],nT:=[(14,[14])] }),
 (182,{ loops:=[(3,[0,1,6,7,8],[])],stay:=[11,27,47,50] }),
 (183,{ loops:=[(3,[0,4,10,11,12],[]),(11,[7,30,31,32],[29])],rows:=[29] }),
 (185,{ loops:=[(3,[3,11,12,13],[10]),(6,[3,5,6,11,12,13],[10])],rows:=[10] }),
 (190,{ loops:=[(4,[5,6,13,14,15],[6])],rows:=[6],mq:=[9],jP:=[31,33] }),
 (191,{ loops:=[(3,[3,9,10,11],[8])] }),
 (192,{ loops:=[(7,[0,7,8,9],[20,24]),(10,[0,7,8,9,36,37,38],[20,24])],rows:=[24],mq:=[5],jP:=[53] }),
 (194,{ stay:=[7] }),
 (195,{ stay:=[7] }),
 (196,{ loops:=[(2,[0,1,2,3,4,10,11],eG)],jP:=[26,33,40,57,76,98,106,129,140],stay:=[30,37,44,52,61,80,94,103,111,134,146] }),
 (201,{ loops:=[(2,[0,1,7,8],eG)],stay:=[7,16] }),
 (202,{ loops:=[(2,[0,3],[])] }),
 (206,{ loops:=[(2,[0,1,5],[])] }),
 (207,{ loops:=[(2,[1,2,5],[2])] }),
 (208,{ loops:=[(3,[0,1,5,6],[])],mq:=[5] }),
 (209,{ loops:=[(5,[0,5,6],[16]),(9,[0,5,6,7,8],[16]),(15,[5,9,10],[16])],rows:=[16],mq:=[7,9] }),
 (210,{ loops:=[(3,[0,3,4],[3])],rows:=[3] }),
 (211,{ loops:=[(2,[1,2,6],[2])] }),
 (212,{ stay:=[4] }),
 (213,{ jP:=[7],stay:=[6,11,13] }),
 (214,{ loops:=[(1,[0,5,6,7],eG)],stay:=[6,13] }),
 (215,{ loops:=[(2,[0,1,2,11,12,13],eG)],stay:=[12,20,29,35,37] }),
 (219,{ loops:=[(1,[0,1,4],[10000])] }),
 (220,{ loops:=[(11,[0,1,3,4,10,11,12,13,14,15,16],[12,10000]),(18,[0,1,3,4,10,11,12,13,17],[12,10000])] }),
 (222,{ stay:=[7] }),
 (224,{ loops:=[(3,[0,3,5,11,12,13],[3,5]++eG)],rows:=[5],nT:=[(2,[3])],stay:=[20] }),
 (225,{ jP:=[6],stay:=[7] }),
 (227,{ loops:=[(4,[1,2,5,6,16,17,18],[2,5,11]++eG),(8,[1,2,5,6,16,17,18,36,37,38],[2,5,8,11]++eG)],jP:=[12],stay:=[33],keep:=[10001,10002,10003,10004] }),
 (229,{ stay:=[7] }),
 (232,{ loops:=[(5,[0,3,4],[])],stay:=[6,14,23] }),
 (233,{ loops:=[(5,[0,1,5,6],eG)],stay:=[10,18,28] }),
 (235,{ loops:=[(2,[0,1,2,3,8,9],[10000])],jP:=[24,30,36,51,69,88,95,117,127],stay:=[27,33,39,46,54,72,85,92,99,121,132] }),
 (239,{ mq:=[4] }),
 (240,{ loops:=[(4,[0,3],[10000]),(9,[0,3,4,5],[10000])],mq:=[4],stay:=[7,12,31] }),
 (241,{ loops:=[(2,[0,1,7,8],[])],stay:=[7] }),
 (242,{ loops:=[(2,[0,1,7,8],eG)],stay:=[7,16] }),
 (243,{ loops:=[(1,[0,1,2,3,8],eG),(4,[0,1,2,3,8,9],eG)],stay:=[32] }),
 (244,{ loops:=[(4,[0,3,8,9,10,11],eG),(8,[0,3,8,9,12],eG)],jP:=[24,54],stay:=[29,59] }),
 (245,{ loops:=[(5,[0,1,8,9,10,11],[9]++eG)],stay:=[21,38] }),
 (246,{ stay:=[40,44,48,54] }),
 (247,{ loops:=[(2,[0,8,9],eG)] }),
 (248,{ loops:=[(3,[0,1,2,3,9,10],eG),(5,[0,1,2,3,9,10],eG),(14,[0,1,2,3,9,10,11],eG),(20,[0,1,2,3,9,10,12],eG)],stay:=[33,82,122] }),
 (249,{ loops:=[(3,[0,1,4,11,12],eG),(5,[0,1,4,11,12],eG)],stay:=[44,63] }),
 (250,{ loops:=[(3,[0,1,4,12,13],eG),(5,[0,1,4,12,13],eG),(13,[0,1,4,12,13],eG),(15,[0,1,4,12,13],eG)],stay:=[45,63,118,136] }),
 (253,{ loops:=[(4,[0,1,5],[])] }),
 (255,{ loops:=[(2,[0,1,2,3,4,10,11],eG)],jP:=[26,33,40,57,76,98,106,129,140],stay:=[30,37,44,52,61,80,94,103,111,134,146] }),
 (260,{ loops:=[(4,[1,16],[16]++eG)] }),
 (262,{ loops:=[(2,[0,1,7,8],eG)],stay:=[7,16] }),
 (264,{ mq:=[4,5],stay:=[10] }),
 (266,{ loops:=[(2,[1,7,8,9],eG)] }),
 (268,{ loops:=[(2,[0,1,7,8],eG)],stay:=[7,16] }),
 (270,{ loops:=[(1,[0,1,2,6],[10000]),(4,[0,1,2,6,7],[10000])],stay:=[29] }),
 (271,{ loops:=[(4,[0,6,7,8,9],[10000]),(8,[0,6,7,10],[10000])],jP:=[22,51],stay:=[26,55] }),
 (272,{ loops:=[(5,[0,1,6,7,8,9],[7,10000])],stay:=[19,36] }),
 (273,{ stay:=[37,40,43,48] }),
 (274,{ loops:=[(2,[0,6,7],[10000])] }),
 (275,{ loops:=[(3,[0,1,2,7,8],[10000]),(5,[0,1,2,7,8],[10000]),(14,[0,1,2,7,8,9],[10000]),(20,[0,1,2,7,8,10],[10000])],stay:=[30,77,115] }),
 (276,{ loops:=[(3,[0,1,9,10],[10000]),(5,[0,1,9,10],[10000])],stay:=[41,58] }),
 (277,{ loops:=[(3,[0,1,10,11],[10000]),(5,[0,1,10,11],[10000]),(13,[0,1,10,11],[10000]),(15,[0,1,10,11],[10000])],stay:=[42,58,111,127] }),
 (280,{ loops:=[(1,[0,2,3,4,10],eG)],stay:=[38,56] }),
 (281,{ stay:=[5] }),
 (283,{ stay:=[17] }),
 (284,{ stay:=[19,28,37] }),
 (287,{ loops:=[(1,[0,1,2,3,8],eG),(4,[0,1,2,3,8,9],eG)],stay:=[32] }),
 (288,{ loops:=[(4,[0,3,8,9,10,11],eG),(8,[0,3,8,9,12],eG)],jP:=[24,54],stay:=[29,59] }),
 (289,{ loops:=[(5,[0,1,8,9,10,11],[9]++eG)],stay:=[21,38] }),
 (290,{ stay:=[40,44,48,54] }),
 (291,{ loops:=[(2,[0,8,9],eG)] }),
 (292,{ loops:=[(3,[0,1,2,3,9,10],eG),(5,[0,1,2,3,9,10],eG),(14,[0,1,2,3,9,10,11],eG),(20,[0,1,2,3,9,10,12],eG)],stay:=[33,82,122] }),
 (293,{ loops:=[(3,[0,1,4,11,12],eG),(5,[0,1,4,11,12],eG)],stay:=[44,63] }),
 (294,{ loops:=[(3,[0,1,4,12,13],eG),(5,[0,1,4,12,13],eG),(13,[0,1,4,12,13],eG),(15,[0,1,4,12,13],eG)],stay:=[45,63,118,136] }),
 (297,{ loops:=[(1,[0,2,3,8],[10000])],stay:=[35,51] }),
 (298,{ stay:=[14] }),
 (299,{ stay:=[16,24,32] }),
 (300,{ stay:=[21] }),
 (303,{ loops:=[(1,[0,2,3,4,10],eG)],stay:=[38,56] }),
 (304,{ stay:=[17] }),
 (305,{ stay:=[19,28,37] }),
 (306,{ stay:=[18] }),
 (307,{ stay:=[21] })]
def H (f:Nat):Hint:=(find hints f).getD {}
def rT (l:List UInt8):List (List UInt8)->List UInt8
 |[]=>[]
 |[x]=>x
 |x::xs=>x++l++rT l xs
def strs:List (List AV)->Option (List (List UInt8))
 |[]=>some []
 |[.str s]::l=>(strs l).map (s:: ·)
 |_=>none
def tz:Nat->Nat->Nat
 |0,_=>0
 |k+1,n=>bif Nat.beq (n % 2) 1 then 0 else 1+tz k (n / 2)
def U9:List (List AV)->Option Nat
 |[]=>some 0
 |[[.int .u64 (.ofNat m)]]=>bif Nat.blt 0 m&&Nat.blt m 18446744073709551616 then some m else none
 |_=>none
def gL:Nat->Nat->Nat
 |0,_=>0
 |k+1,n=>n % 2+gL k (n / 2)
abbrev vU:=List UInt8×Nat
def H6:List (List AV)->Option (List vU)
 |[]=>some []
 |[.str s, .dH 1 ws]::l=>match U9 ws,H6 l with
  |some w,some r=>some ((s,w)::r)
  |_,_=>none
 |_=>none
def Sq (p q:vU):Bool:=Nat.blt (gL 64 q.2) (gL 64 p.2)||(Nat.beq (gL 64 p.2) (gL 64 q.2)&&Op.bytesLess p.1 q.1)
def GY:List vU->Bool
 |[]=>true
 |x::l=>l.all (λy=>Sq x y||Sq y x)&&GY l
def vU.enc (p:vU):List AV:=[.str p.1, .dH 1 (bif Nat.beq p.2 0 then[] else[[.int .u64 (p.2:Int)]])]
def uG:List (List AV)->Option (List (Int×Int))
 |[]=>some []
 |[.int .i64 f, .int .i64 t]::l=>(uG l).map ((f,t):: ·)
 |_=>none
def P8 (p:Int×Int):List AV:=[.int .i64 p.1, .int .i64 p.2]
abbrev zg:=Int×List (Int×Int)
def vK:List (List AV)->Option (List zg)
 |[]=>some []
 |[.int .i64 t, .dH 2 q]::l=>match uG q,vK l with
  |some a,some r=>some ((t,a)::r)
  |_,_=>none
 |_=>none
def Wo (p q:Int×Int):Bool:=decide (p.1<q.1)
def zy:List (Int×Int)->Bool
 |[]=>true
 |x::l=>l.all (λy=>Wo x y||Wo y x)&&zy l
def Gk (p:List Int):List (Int×Int)->List Bool->List Int->List (List Int)->Option (List Bool×List Int×List (List Int))
 |[],q,w,z=>some (q,w,z)
 |(f,t)::l,q,w,z=>match q[t.toNat]? with
  |some b=>if t<0 then none else bif b then Gk p l q w z else Gk p l (q.set t.toNat true) (w++[t]) (z++[p++[f]])
  |none=>none
def bfs (g:List zg):Nat->Nat->List Bool->List Int->List (List Int)->Option (List Int×List (List Int))
 |0,_,_,_,_=>none
 |k+1,i,q,w,B=>match w[i]?,B[i]? with
  |some n,some p=>match g[n.toNat]? with
   |some x=>match Gk p x.2 q w B with
    |some (l,z,D)=>bfs g k (i+1) l z D
    |none=>none
   |none=>none
  |_,_=>some (w,B)
def Dz:List (List Int)->List Int->List (List Int)->List (List Int)
 |out,n::l,p::q=>Dz (out.set n.toNat p) l q
 |out,_,_=>out
def yl (g:List zg):Option (List (List Int)):=(bfs g (g.length+1) 0 ((List.replicate g.length false).set 0 true) [0] [[]]).map λr=>Dz (List.replicate g.length []) r.1 r.2
def PZ (n:Nat):List UInt8:=bif Nat.blt n 10 then[UInt8.ofNat (48+n)] else[UInt8.ofNat (48+n / 10),UInt8.ofNat (48+n % 10)]
def WB:dW:=λf args cE=>match f,args,cE with
 |128,[.pv (.dH 1 xs), .pv (.str q)],[]=>match strs xs with
  |some l=>bif Nat.ble (rT q l).length 140737488355328&&Nat.ble l.length 140737488355328 then some (.str (rT q l),[]) else none
  |none=>none
 |186,[.pv (.int .u64 n)],[]=>match n with
  | .ofNat m=>bif Nat.blt m 18446744073709551616 then some (.int .i64 (tz 64 m:Nat),[]) else none
  | .negSucc _=>none
 |180,[.row 10000],[(10000, .row 9 1 xs)]=>match strs xs with
  |some l=>bif Nat.ble l.length 1073741824 then some (.lQ [],[(10000, .row 9 1 ((lC Op.bytesLess l).map jr))]) else none
  |none=>none
 |57,[.pv (.dH 1 xs)],[]=>bif Nat.ble (xs.length *8) 140737488355328 then some (.lQ [.lQ [.self 3, .dH 1 xs]],[]) else none
 |_,_,_=>none
def eY:dW:=λf args cE=>match f,args,cE with
 |130,[.row 10000, .pv (.fn 131 [])],[(10000, .row 112 2 xs)]=>match H6 xs with
  |some l=>bif GY l&&Nat.ble l.length 1073741824 then some (.lQ [],[(10000, .row 112 2 ((lC Sq l).map vU.enc))]) else none
  |none=>none
 |74,[.pv (.dH 2 xs)],[]=>bif Nat.ble (xs.length *32) 140737488355328 then some (.lQ [.lQ [.self 52, .dH 2 xs]],[]) else none
 |165,[.pv (.fn 214 [.ref [.dH 2 xs]]), .pv (.fn 167 [])],[]=>match uG xs with
  |some l=>bif zy l&&Nat.ble l.length 1073741824 then some (.lQ [.lQ [.self 54, .dH 2 ((lC Wo l).map P8)]],[]) else none
  |none=>none
 |83,[.pv (.int .i64 n)],[]=>match n with
  | .ofNat m=>bif Nat.blt m 100 then some (.str (PZ m),[]) else none
  | .negSucc _=>none
 |29,[.pv (.agg [.dH 2 xs])],[]=>match vK xs with
  |some g=>bif Nat.blt 0 g.length&&Nat.ble g.length 1073741824 then(yl g).map λq=>(.dH 1 (q.map λp=>[.dH 1 (p.map λn=>[.int .i64 n])]),[]) else none
  |none=>none
 |f,args,cE=>WB f args cE
noncomputable abbrev Rn:dW:=run P H eY
instance:Ho Node Node.enc:=⟨⟩
instance:Ho FSt FSt.enc:=⟨⟩
instance:Ho aA aA.enc:=⟨⟩
instance:Ho gK gK.enc:=⟨⟩
instance:Ho c4 c4.enc:=⟨⟩
instance:Ho fe fe.enc:=⟨⟩
instance:Ho bX bX.enc:=⟨⟩
instance:Ho bS bS.enc:=⟨⟩
instance:Ho dX dX.enc:=⟨⟩
instance:Ho c8 c8.enc:=⟨⟩
instance:Ho dh dh.enc:=⟨⟩
instance:Ho result result.enc:=⟨⟩
instance:Ho (List bX) (gU 2 bX.enc):=⟨⟩
instance:Ho (List c8) (gU 2 c8.enc):=⟨⟩
instance {x:gK}:En x.Code (bZ .u64):=⟨⟩
instance {x:dX}:En x.Code (bZ .u64):=⟨⟩
instance {A:List Int} {B:List Int} {l q:AV} [w:Rw (AV.dH 1 (List.map (bZ .i64) A)) l] [z:Rw (AV.dH 1 (List.map (bZ .i64) B)) q]:Rw (fe.enc ⟨A,B⟩) [l,q]:=⟨by rw[<-w.e,<-z.e];rfl⟩
instance {l:Int} {q:Int} {w z:AV} [B:Rw (AV.int .i64 l) w] [D:Rw (AV.int .i64 q) z]:Rw (bX.enc ⟨l,q⟩) [w,z]:=⟨by rw[<-B.e,<-D.e];rfl⟩
instance {l:Int} {q:List bX} {w z:AV} [B:Rw (AV.int .i64 l) w] [D:Rw (AV.dH 2 (List.map bX.enc q)) z]:Rw (Node.enc ⟨l,q⟩) [w,z]:=⟨by rw[<-B.e,<-D.e];rfl⟩
instance:Ho table table.enc:=⟨⟩
theorem eu:Ho Int (bZ .u64):=⟨⟩
instance:YT (List (List UInt8)) (pL 1 jr):=⟨⟩
instance:YT (List Int) (pL 1 (bZ .u64)):=⟨⟩
abbrev Lt {l:Type} (f t:Option l):Prop:=∀{r:l},t=some r->f=some r
noncomputable abbrev rn {l:Type} (q:l->AV) (f:Nat) (a:List SV):Option l:=dec (EN q) (Rn f a [])
noncomputable abbrev hd {l:Type} (q:l->AV) (f k:Nat) (e:List (Nat×SV)) (o:List (Nat×Ob)):Option l:=dec (EN q) (pG P nJ H eY f k [] e o)
noncomputable abbrev hx {w:Type} (q:w->Out) (f k:Nat) (l:List Nat) (e:List (Nat×SV)) (o:List (Nat×Ob)):Option w:=dec q (pG P nJ H eY f k l e o)
abbrev PE (x:dX):Ob:= .box 112 (List.map .pv (dX.enc x))
abbrev bH (x:FSt):Ob:= .box 24 (List.map .pv (FSt.enc x))
abbrev cn (x:bQ):Ob:= .box 34 (List.map .pv (bQ.enc x))
abbrev lZ (x:Node):Ob:= .box 52 (List.map .pv (Node.enc x))
abbrev zF (x:result):Ob:= .box 74 (List.map .pv (result.enc x))
abbrev lJ (x:aA):Ob:= .box 90 (List.map .pv (aA.enc x))
abbrev nE (x:bS):Ob:= .box 93 (List.map .pv (bS.enc x))
abbrev vG (x:List (V3.T×V3.T)):Ob:= .mp 3 3 (dN V3 V3 x).1 (dN V3 V3 x).2
abbrev Re (x:List (V3.T×V4.T)):Ob:= .mp 3 4 (dN V3 V4 x).1 (dN V3 V4 x).2
abbrev tB (x:List (V9.T×Pv.T)):Ob:= .mp 9 110 (dN V9 Pv x).1 (dN V9 Pv x).2
abbrev iz (x:List (V9.T×V3.T)):Ob:= .mp 9 3 (dN V9 V3 x).1 (dN V9 V3 x).2
abbrev vH (x:List (V9.T×V4.T)):Ob:= .mp 9 4 (dN V9 V4 x).1 (dN V9 V4 x).2
abbrev YL (x:Bool):SV:= .pv (.bool x)
abbrev UF (x:bX):SV:= .pv (.agg (bX.enc x))
abbrev Ru (x:dX):SV:= .pv (.agg (dX.enc x))
abbrev fT (x:FSt):SV:= .pv (.agg (FSt.enc x))
abbrev zY (x:bS):SV:= .pv (.agg (bS.enc x))
abbrev dD (x:bQ):SV:= .pv (.agg (bQ.enc x))
abbrev GU (x:Node):SV:= .pv (.agg (Node.enc x))
abbrev FW (x:aA):SV:= .pv (.agg (aA.enc x))
abbrev acL (x:gK):SV:= .pv (.agg (gK.enc x))
abbrev aB (x:Int):SV:= .pv (.int .i64 x)
abbrev Wz (x:Int):SV:= .pv (.int .u8 x)
abbrev kE (x:List (FSt)):SV:= .pv (.dH 1 (List.map FSt.enc x))
abbrev ff (x:List (Int)):SV:= .pv (.dH 1 (List.map (bZ .i64) x))
abbrev AU (x:List (List (Int))):SV:= .pv (.dH 1 (List.map (gU 1 (bZ .i64)) x))
abbrev uq (x:List (List (Int))):SV:= .pv (.dH 1 (List.map (gU 1 (bZ .u64)) x))
abbrev DL (x:List (List (c8))):SV:= .pv (.dH 1 (List.map (gU 2 c8.enc) x))
abbrev gP (x:List (Int)):SV:= .pv (.dH 1 (List.map (bZ .u64) x))
abbrev dO (x:List (List UInt8)):SV:= .pv (.dH 1 (List.map jr x))
abbrev I8 (x:List (c8)):SV:= .pv (.dH 2 (List.map c8.enc x))
abbrev fh (x:List (bX)):SV:= .pv (.dH 2 (List.map bX.enc x))
abbrev cZ (x:List (dX)):SV:= .pv (.dH 2 (List.map dX.enc x))
abbrev iT (x:List (bS)):SV:= .pv (.dH 2 (List.map bS.enc x))
abbrev gX (x:List (c4)):SV:= .pv (.dH 2 (List.map c4.enc x))
abbrev dc (x:List (Node)):SV:= .pv (.dH 2 (List.map Node.enc x))
abbrev FX (x:List (fe)):SV:= .pv (.dH 2 (List.map fe.enc x))
abbrev aN (x:List (aA)):SV:= .pv (.dH 3 (List.map aA.enc x))
abbrev je (x:List (gK)):SV:= .pv (.dH 4 (List.map gK.enc x))
abbrev Ch (x:List UInt8):SV:= .pv (.str x)
abbrev fM (n:Nat):Nat×SV:=(n, .ptr n 0)
abbrev vO (n:Nat):Nat×SV:=(n, .row n)
abbrev Ae (x:List (List (Int))):Ob:= .row 110 1 (List.map (gU 1 (bZ .u64)) x)
abbrev KN (x:List (dX)):Ob:= .row 112 2 (List.map dX.enc x)
abbrev eE (x:List (List (c8))):Ob:= .row 114 1 (List.map (gU 2 c8.enc) x)
abbrev p8 (x:List (gK)):Ob:= .row 116 4 (List.map gK.enc x)
abbrev Af (x:List (c8)):Ob:= .row 128 2 (List.map c8.enc x)
abbrev jN (x:List (dh)):Ob:= .row 137 2 (List.map dh.enc x)
abbrev jO (x:List (c4)):Ob:= .row 155 2 (List.map c4.enc x)
abbrev xb (x:List (Int)):Ob:= .row 164 1 (List.map (bZ .u64) x)
abbrev AZ (x:List (FSt)):Ob:= .row 24 1 (List.map FSt.enc x)
abbrev cI (x:List (Int)):Ob:= .row 3 1 (List.map (bZ .i64) x)
abbrev F7 (x:List (Bool)):Ob:= .row 4 1 (List.map qD x)
abbrev nh (x:List (List (bX))):Ob:= .row 50 1 (List.map (gU 2 bX.enc) x)
abbrev fc (x:List (Node)):Ob:= .row 52 2 (List.map Node.enc x)
abbrev iq (x:List (bX)):Ob:= .row 54 2 (List.map bX.enc x)
abbrev Js (x:List (List (Int))):Ob:= .row 60 1 (List.map (gU 1 (bZ .i64)) x)
abbrev rE (x:List (fe)):Ob:= .row 65 2 (List.map fe.enc x)
abbrev Gx (x:List (aA)):Ob:= .row 90 3 (List.map aA.enc x)
abbrev kS (x:List (bS)):Ob:= .row 93 2 (List.map bS.enc x)
abbrev dP (x:List (List UInt8)):Ob:= .row 9 1 (List.map jr x)
abbrev tl0:=λl x1 x2 x3 q w=>([(10000,(.box 171 [(aN l),(cZ x1),(.row 10001),(.row 20002),(.row 20003),(.row 20004)])),(10001,(iz x2)),(20002,(dP x3)),(20003,(cI q)),(20004,(eE w))]:List (Nat×Ob))
abbrev Yy:=λl x1 x2 x3 q=>([(10000,(.box 98 [(je l),(gX x1),(.row 20001),(.row 20002),(.row 20003)])),(20001,(cI x2)),(20002,(cI x3)),(20003,(nh q))]:List (Nat×Ob))
abbrev Sa:=λl x1 x2 x3 q w=>([(10002,(.box 171 [(aN l),(cZ x1),(.row 10003),(.row 10004),(.row 10005),(.row 10006)])),(10003,(iz x2)),(10004,(dP x3)),(10005,(cI q)),(10006,(eE w))]:List (Nat×Ob))
abbrev tl3:=λl x1 x2 x3 q w=>([(10000,(.box 171 [(aN l),(cZ x1),(.row 10001),(.row 10002),(.row 10003),(.row 10004)])),(10001,(iz x2)),(10002,(dP x3)),(10003,(cI q)),(10004,(eE w))]:List (Nat×Ob))
abbrev tl4:=λl x1 x2 x3=>([(10000,(.box 123 [(je l),(gX x1),(.row 20001),(.row 20002)])),(20001,(cI x2)),(20002,(cI x3))]:List (Nat×Ob))
abbrev tl5:=λl x1 x2 x3 q w z=>([(10000,(.box 95 [(.ptr 10004 0)])),(10001,(.box 60 [(.row 20005)])),(10002,(.box 24 [(.row 20006)])),(10003,(.box 139 [(.cl 91 [.p 10000, .p 10001, .p 10002, .p 10003])])),(10004,(.box 98 [(je l),(gX x1),(.row 20007),(.row 20008),(.row 20009)])),(20005,(cI x2)),(20006,(fc x3)),(20007,(cI q)),(20008,(cI w)),(20009,(nh z))]:List (Nat×Ob))
abbrev tl6:=λl x1 x2 x3 q w=>([(10000,(.box 95 [(.ptr 10002 0)])),(10001,(.box 138 [(.row 20003)])),(10002,(.box 98 [(je l),(gX x1),(.row 20004),(.row 20005),(.row 20006)])),(20003,(jN x2)),(20004,(cI x3)),(20005,(cI q)),(20006,(nh w))]:List (Nat×Ob))
abbrev tl7:=λl x1 x2=>([(3,(bH l)),(4,(bH x1)),(5,(.box 24 [(.row 5080)])),(5080,(fc x2))]:List (Nat×Ob))
abbrev tl8:=λl x1 x2=>([(8,(bH l)),(9,(.box 24 [(.row 5144)])),(5144,(.rn 52 2 1 54 2 (List.map (jA Node.enc 1) x1) (oT bX.enc x2)))]:List (Nat×Ob))
abbrev tl10:=λl x1 x2 x3 q w z B D=>([(2,(cn l)),(3,(bH x1)),(4,(bH x2)),(14,(.box 123 [(je x3),(gX q),(.row 5210),(.row 5211)])),(5208,(p8 w)),(5209,(jO z)),(5210,(cI B)),(5211,(cI D))]:List (Nat×Ob))
abbrev tl11:=λl x1 x2 x3=>([(2,(cn l)),(3,(bH x1)),(4,(bH x2)),(6,(cI x3))]:List (Nat×Ob))
def jb {T:Type} {E:T->Out} [gI E] {raw:Option Out} {t:Option T} [i:Im E t raw] {f:Nat} {args:List SV} {cE:List (Nat×Ob)} (l:Zl P nJ H eY f args cE=raw:=by kernel_rfl) (q:eY f args cE=none:=by rfl):Lt (dec E (run P H eY f args cE)) t:=
 λw=>nR w i.p l λh=>mu (C:=nJ) q h
def jh {T:Type} {E:T->Out} [gI E] {raw:Option Out} {t:Option T} [i:Im E t raw] {f key:Nat} {names:List Nat} {l:List (Nat×SV)} {q:List (Nat×Ob)} (w:UN P nJ H eY f key names l q=raw:=by kernel_rfl):Lt (dec E (pG P nJ H eY f key names l q)) t:=
 λz=>nR z i.p w λh=>kz h
