/- The types and codecs of the program, by program (decomp4.py). -/
import Derived.Test.YthppjmoncapdfaaGreatDoorProg
import Derived.Test.YthppjmoncapdfaaGreatDoorAmI
import Derived.KernelRfl
set_option linter.all false
set_option maxRecDepth 100000
namespace Go.Proofs.YthppjmoncapdfaaGreatDoor.cl
open Go Go.AM
noncomputable abbrev P:Program:=Tryz.prog
theorem Uv {l q:Type} {f:l->q} (h:∀a b,f a=f b->a=b:=by
 intro a b h
 (iterate 6 (try injections))<;>first
 |assumption
 |exact map_inj gJ.inj _ _ ‹_›
 |(cases a;cases b;congr<;>first|assumption|exact map_inj gJ.inj _ _ ‹_› |exact yt ‹_› ‹_›)):gJ f:=⟨h⟩
theorem mkK {K:r5} [DecidableEq K.T] (h:∀a b,vK (K.enc a) (K.enc b)=some (decide (a=b)):=by
 intro a b;simp only[vK,fS]
 first|rfl|(congr 1;first|rfl|(rw[jo];simp))):Gu K:=⟨λa b=>⟨inferInstance,h a b⟩⟩
def strOf:AV->List UInt8
 | .str s=>s
 |_=>[]
def isStr:AV->Bool
 | .str _=>true
 |_=>false
def Ar:List AV->List UInt8
 |[a]=>strOf a
 |_=>[]
def FU:List AV->Bool
 |[a]=>isStr a
 |_=>false
def S5 (xs:List (List AV)) (l:List AV):Bool:=xs.all FU&&l.all isStr&&Nat.ble (xs.length+l.length) 1073741824
def blkR (xs:List (List AV)) (l:List AV):List (List AV):=(lD Op.bytesLess (xs.map Ar++l.map strOf)).map jv
def Qm (l:St):Bool:=match l.env 0,l.env 3,l.ob 10000 with
 |some (.ptr 10000 0),some (.row 15),some (.box 171 [.pv _, .pv _, .row 10001, .row 20002, .row 20003, .row 20004])=>match l.ob 15,l.ob 20002,l.ob 10001,l.ob 20003,l.ob 20004 with
  |some (.mp 9 4 q _),some (.row 9 1 xs),some (.mp 9 3 _ _),some (.row 3 1 _),some (.row 114 1 _)=>S5 xs q
  |_,_,_,_,_=>false
 |_,_,_=>false
def Ql (l:St):Nat×St:=match l.ob 15,l.ob 20002,l.ob 10000,l.ob 10001,l.ob 20003,l.ob 20004 with
 |some (.mp _ _ q _),some (.row _ _ xs),some w,some z,some B,some D=>(1,{ env:=find [(2, .pv (.int .i64 0))],ob:=find [(10000,w),(10001,z),(20002, .row 9 1 (blkR xs q)),(20003,B),(20004,D)] })
 |_,_,_,_,_,_=>(1,l)
def Zw (V:r5) {X:List (List UInt8)} {Y:List (List UInt8×V.T)} (h:X.length+Y.length<=1073741824):S5 (X.map jv) (dO ⟨List UInt8,AV.str⟩ V Y).1=true:=by
 unfold S5;simp only[aJ,cz,aD];refine⟨⟨?_,?_⟩,?_⟩
 .rintro _ ⟨x,_,rfl⟩;rfl
 .intro a l;simp only[dO,aD] at l;obtain⟨p,_,rfl⟩:=l;rfl
 .rw[Nat.ble_eq];simpa[dO] using h
def Zy {V:r5} (X:List (List UInt8)) (Y:List (List UInt8×V.T)):blkR (X.map jv) (dO ⟨List UInt8,AV.str⟩ V Y).1=(lD Op.bytesLess (X++Y.map Prod.fst)).map jv:=by
 unfold blkR;have e1:(X.map jv).map Ar=X:=by rw[eV];exact(gT (λx _=>rfl)).trans (jX X)
 have l:(dO ⟨List UInt8,AV.str⟩ V Y).1.map strOf=Y.map Prod.fst:=by simp only[dO,eV];exact gT (λx _=>rfl)
 rw[e1,l]
abbrev V3:r5:=⟨Int,AV.int .i64⟩
instance:gJ V3.enc:=Uv
instance:Gu V3:=mkK
abbrev V4:r5:=⟨Bool,AV.bool⟩
instance:gJ V4.enc:=Uv
instance:Gu V4:=mkK
abbrev V9:r5:=⟨List UInt8,AV.str⟩
instance:gJ V9.enc:=Uv
instance:Gu V9:=mkK
structure bY where
 aT:Int
 To:Int
 deriving Inhabited
def bY.enc (x:bY):List AV:=[.int .i64 x.aT, .int .i64 x.To]
instance:gJ bY.enc:=Uv
structure Node where
 cQ:Int
 bD:List bY
 deriving Inhabited
def Node.enc (x:Node):List AV:=[.int .i64 x.cQ, .dK 2 (List.map bY.enc x.bD)]
instance:gJ Node.enc:=Uv
structure FSt where
 aj:List Node
 deriving Inhabited
def FSt.enc (x:FSt):List AV:=[.dK 2 (List.map Node.enc x.aj)]
instance:gJ FSt.enc:=Uv
structure bT where
 aT:List UInt8
 Value:List UInt8
 deriving Inhabited
def bT.enc (x:bT):List AV:=[.str x.aT, .str x.Value]
instance:gJ bT.enc:=Uv
structure aB where
 Name:List UInt8
 dH:List (List UInt8)
 cE:List bT
 deriving Inhabited
def aB.enc (x:aB):List AV:=[.str x.Name, .dK 1 (List.map jv x.dH), .dK 2 (List.map bT.enc x.cE)]
instance:gJ aB.enc:=Uv
structure dc where
 aT:Int
 Value:Int
 deriving Inhabited
def dc.enc (x:dc):List AV:=[.int .i64 x.aT, .int .i64 x.Value]
instance:gJ dc.enc:=Uv
structure gL where
 Name:List UInt8
 Code:List Int
 dH:List Int
 cE:List dc
 deriving Inhabited
def gL.enc (x:gL):List AV:=[.str x.Name, .dK 1 (List.map (cg .u64) x.Code), .dK 1 (List.map (cg .i64) x.dH), .dK 2 (List.map dc.enc x.cE)]
instance:gJ gL.enc:=Uv
structure c8 where
 Name:List UInt8
 Intro:Int
 deriving Inhabited
def c8.enc (x:c8):List AV:=[.str x.Name, .int .i64 x.Intro]
instance:gJ c8.enc:=Uv
structure bR where
 Types:List gL
 cE:List c8
 deriving Inhabited
def bR.enc (x:bR):List AV:=[.dK 4 (List.map gL.enc x.Types), .dK 2 (List.map c8.enc x.cE)]
instance:gJ bR.enc:=Uv
structure ff where
 A:List Int
 B:List Int
 deriving Inhabited
def ff.enc (x:ff):List AV:=[.dK 1 (List.map (cg .i64) x.A), .dK 1 (List.map (cg .i64) x.B)]
instance:gJ ff.enc:=Uv
structure result where
 h:bR
 f:FSt
 deriving Inhabited
def result.enc (x:result):List AV:=[.dK 4 (List.map gL.enc x.h.Types), .dK 2 (List.map c8.enc x.h.cE), .dK 2 (List.map Node.enc x.f.aj)]
def result.inj:∀(a b:result),result.enc a=result.enc b->a=b:=by intro a b h;obtain⟨L,K⟩:=a;obtain⟨w,q⟩:=L;obtain⟨l⟩:=K;obtain⟨O,N⟩:=b;obtain⟨D,B⟩:=O;obtain⟨z⟩:=N;simp only[result.enc,dN,AV.int.injEq,AV.str.injEq,AV.bool.injEq,AV.dK.injEq,AV.mp.injEq,gD,fG] at h;obtain⟨F,G,I⟩:=h;replace F:=map_inj gJ.inj _ _ F;replace G:=map_inj gJ.inj _ _ G;replace I:=map_inj gJ.inj _ _ I;change w=D at F;change q=B at G;change l=z at I;subst F G I;rfl
instance:gJ result.enc:=⟨result.inj⟩
structure dY where
 Name:List UInt8
 Code:List Int
 deriving Inhabited
def dY.enc (x:dY):List AV:=[.str x.Name, .dK 1 (List.map (cg .u64) x.Code)]
instance:gJ dY.enc:=Uv
structure dr where
 a0:Int
 a1:Int
 deriving Inhabited
def dr.enc (x:dr):List AV:=[.int .i64 x.a0, .int .i64 x.a1]
instance:gJ dr.enc:=Uv
structure table where
 d:List aB
 codes:List dY
 number:List ((List UInt8)×Int)
 aah:List (List UInt8)
 intro:List Int
 values:List (List dc)
 deriving Inhabited
def table.enc (x:table):List AV:=[.dK 3 (List.map aB.enc x.d), .dK 2 (List.map dY.enc x.codes), .mp (dO V9 V3 x.number).1 (dO V9 V3 x.number).2, .dK 1 (List.map jv x.aah), .dK 1 (List.map (cg .i64) x.intro), .dK 1 (List.map (gV 2 dc.enc) x.values)]
def table.inj:∀(a b:table),table.enc a=table.enc b->a=b:=by intro a b h;obtain⟨ad,B,l,D,F,q⟩:=a;obtain⟨bd,G,w,I,K,z⟩:=b;simp only[table.enc,dN,AV.int.injEq,AV.str.injEq,AV.bool.injEq,AV.dK.injEq,AV.mp.injEq,gD,fG] at h;obtain⟨N,O,L,Q,R,S⟩:=h;replace N:=map_inj gJ.inj _ _ N;replace O:=map_inj gJ.inj _ _ O;replace L:=yt (K:=V9) (V:=V3) L.1 L.2;replace Q:=map_inj gJ.inj _ _ Q;replace R:=map_inj gJ.inj _ _ R;replace S:=map_inj gJ.inj _ _ S;change ad=bd at N;change B=G at O;change l=w at L;change D=I at Q;change F=K at R;change q=z at S;subst N O L Q R S;rfl
instance:gJ table.enc:=⟨table.inj⟩
abbrev C52:Fu:=⟨Node,Node.enc⟩
abbrev C24:Fu:=⟨FSt,FSt.enc⟩
abbrev C90:Fu:=⟨aB,aB.enc⟩
abbrev C116:Fu:=⟨gL,gL.enc⟩
abbrev C155:Fu:=⟨c8,c8.enc⟩
abbrev C65:Fu:=⟨ff,ff.enc⟩
abbrev C54:Fu:=⟨bY,bY.enc⟩
abbrev C60:Fu:=⟨List (Int),(gV 1 (cg .i64))⟩
abbrev C3:Fu:=⟨Int,(cg .i64)⟩
abbrev C9:Fu:=⟨List UInt8,jv⟩
abbrev C93:Fu:=⟨bT,bT.enc⟩
abbrev C50:Fu:=⟨List (bY),(gV 2 bY.enc)⟩
abbrev C4:Fu:=⟨Bool,qF⟩
abbrev C114:Fu:=⟨List (dc),(gV 2 dc.enc)⟩
abbrev C112:Fu:=⟨dY,dY.enc⟩
abbrev C164:Fu:=⟨Int,(cg .u64)⟩
abbrev C128:Fu:=⟨dc,dc.enc⟩
abbrev C137:Fu:=⟨dr,dr.enc⟩
abbrev C110:Fu:=⟨List (Int),(gV 1 (cg .u64))⟩
abbrev C5:Fu:=⟨Int,(cg .u8)⟩
abbrev C74:Fu:=⟨result,result.enc⟩
abbrev V87:r5:=⟨List (List UInt8),pL 1 jv⟩
abbrev PD:r5:=⟨List Int,pL 1 (cg .u64)⟩
abbrev Q0:=AV.bool
abbrev Q1:=pL 1 FSt.enc
abbrev Q2:=pA bR.enc
abbrev Q3:=pA FSt.enc
abbrev Q4:=pL 2 ff.enc
abbrev Q5:=AV.int .i64
abbrev Q6:=pL 1 (gV 1 (cg .i64))
abbrev Q7:=pP (pA bR.enc) (AV.int .i64)
abbrev Q8:=pL 3 aB.enc
abbrev Q9:=pP (pA FSt.enc) (AV.bool)
abbrev Q10:=pP (pA FSt.enc) (AV.int .i64)
abbrev Q11:=pP (pL 1 (cg .i64)) (AV.bool)
abbrev Q12:=pP (pL 1 (gV 2 dc.enc)) (AV.int .i64)
abbrev Q13:=pP (pL 2 dY.enc) (AV.int .i64)
abbrev Q14:=pA aB.enc
abbrev Q15:=pL 1 (cg .i64)
abbrev Q16:=pL 1 jv
abbrev Q17:=pP (pL 2 c8.enc) (AV.int .i64)
abbrev Q18:=pU
abbrev Q19:=pP (AV.int .i64) (AV.bool)
abbrev Q20:=AV.str
abbrev Q21:=pL 1 (cg .u64)
abbrev Q22:=pL 1 (gV 1 (cg .u64))
abbrev Q23:=pL 2 Node.enc
abbrev Q24:=pW 3 1 (cg .i64)
abbrev Q25:=pP (AV.str) (AV.bool)
abbrev Q26:=pP (pL 1 (cg .u64)) (AV.bool)
abbrev Q27:=pW 52 2 Node.enc
abbrev Q28:=pW 54 2 bY.enc
abbrev Q29:=pP (Ty table.enc) (AV.int .i64)
abbrev Q30:=pP (pL 1 jv) (pL 1 (gV 1 (cg .u64)))
abbrev Q31:=pP (pL 1 (gV 1 (cg .u64))) (AV.bool)
abbrev Q32:=pP (pL 1 (cg .u64)) (AV.int .i64)
abbrev Q33:=pF 214 bY.enc
abbrev Q34:=AV.int .u64
abbrev Q35:=pM V9.enc V87.enc
abbrev Q36:=pM V9.enc PD.enc
abbrev Q37:=AV.self
abbrev R392.T:Type:=Bool
abbrev R393.T:Type:=Bool
abbrev R394.T:Type:=Bool
abbrev R395.T:Type:=Bool
abbrev R396.T:Type:=Bool
abbrev R397.T:Type:=Bool
abbrev R398.T:Type:=Bool
abbrev R399.T:Type:=Bool
abbrev R402.T:Type:=Bool
abbrev R400.T:Type:=List FSt
abbrev R401.T:Type:=List FSt
abbrev R403.T:Type:=bR
abbrev R404.T:Type:=Bool
abbrev R407.T:Type:=Bool
abbrev R405.T:Type:=FSt
abbrev R406.T:Type:=FSt
abbrev R419.T:Type:=FSt×Bool
abbrev R412.T:Type:=Bool
abbrev R408.T:Type:=Bool
abbrev R409.T:Type:=List ff
abbrev R420.T:Type:=FSt×Bool
abbrev R410.T:Type:=Int
abbrev R411.T:Type:=Int
abbrev R413.T:Type:=Bool
abbrev R421.T:Type:=FSt×Int
abbrev R414.T:Type:=FSt
abbrev R415.T:Type:=List (List Int)
abbrev R426.T:Type:=FSt
abbrev R425.T:Type:=FSt
abbrev R428.T:Type:=bR
abbrev R427.T:Type:=Int
abbrev R429.T:Type:=List ff
abbrev R438.T:Type:=FSt×Bool
abbrev R416.T:Type:=List (List Int)
abbrev R430.T:Type:=FSt
abbrev R439.T:Type:=FSt
abbrev R332.T:Type:=bR×Int
abbrev R327.T:Type:=List aB
abbrev R417.T:Type:=Int
abbrev R418.T:Type:=Int
abbrev R483.T:Type:=Bool
abbrev R431.T:Type:=FSt×Bool
abbrev R433.T:Type:=FSt×Bool
abbrev R434.T:Type:=FSt×Bool
abbrev R423.T:Type:=(List Int)×Bool
abbrev R445.T:Type:=Bool
abbrev R422.T:Type:=Int
abbrev R355.T:Type:=Int×Bool
abbrev R339.T:Type:=Bool
abbrev R435.T:Type:=Int
abbrev R436.T:Type:=FSt
abbrev R447.T:Type:=List UInt8
abbrev R331.T:Type:=bR×Int
abbrev R460.T:Type:=List Int
abbrev R484.T:Type:=Bool
abbrev R442.T:Type:=Unit
abbrev R443.T:Type:=Bool
abbrev R444.T:Type:=FSt
abbrev R468.T:Type:=Int
abbrev R323.T:Type:=(List (List dc))×Int
abbrev R15.T:Type:=(List dY)×Int
abbrev R28.T:Type:=List Int
abbrev R320.T:Type:=(List c8)×Int
abbrev R351.T:Type:=aB
abbrev R356.T:Type:=Int×Bool
abbrev R340.T:Type:=Bool
abbrev R432.T:Type:=List Int
abbrev R440.T:Type:=FSt×Bool
abbrev R441.T:Type:=FSt×Bool
abbrev R461.T:Type:=Bool
abbrev R462.T:Type:=List Node
abbrev R466.T:Type:=Int
abbrev R437.T:Type:=FSt×Int
abbrev R446.T:Type:=Bool
abbrev R63.T:Type:=Bool
abbrev R454.T:Type:=Int
abbrev R455.T:Type:=Unit
abbrev R463.T:Type:=List bY
abbrev R459.T:Type:=List UInt8
abbrev R319.T:Type:=(List c8)×Int
abbrev R322.T:Type:=(List (List dc))×Int
abbrev R14.T:Type:=(List dY)×Int
abbrev R27.T:Type:=List Int
abbrev R486.T:Type:=Bool
abbrev R335.T:Type:=Int×Bool
abbrev R485.T:Type:=Int
abbrev R487.T:Type:=Int
abbrev R318.T:Type:=Int
abbrev R345.T:Type:=List (List UInt8)
abbrev R370.T:Type:=(List Int)×Bool
abbrev R19.T:Type:=Int
abbrev R32.T:Type:=Int
abbrev R52.T:Type:=List (List UInt8)
abbrev R53.T:Type:=List Int
abbrev R54.T:Type:=List (List Int)
abbrev R55.T:Type:=List UInt8
abbrev R56.T:Type:=Bool
abbrev R25.T:Type:=Bool
abbrev R357.T:Type:=(List UInt8)×Bool
abbrev R358.T:Type:=Int
abbrev R65.T:Type:=Bool
abbrev R448.T:Type:=List Node
abbrev R451.T:Type:=List Int
abbrev R450.T:Type:=List Int
abbrev R449.T:Type:=List Int
abbrev R452.T:Type:=(List Int)×Bool
abbrev R453.T:Type:=FSt
abbrev R477.T:Type:=Bool
abbrev R471.T:Type:=Bool
abbrev R472.T:Type:=Bool
abbrev R456.T:Type:=Int
abbrev R457.T:Type:=FSt
abbrev R458.T:Type:=Int
abbrev R107.T:Type:=Int
abbrev R344.T:Type:=(Option table)×Int
abbrev R39.T:Type:=Int
abbrev R40.T:Type:=(List (List UInt8))×(List (List Int))
abbrev R41.T:Type:=(List (List Int))×Bool
abbrev R42.T:Type:=Int
abbrev R43.T:Type:=Bool
abbrev R31.T:Type:=Bool
abbrev R44.T:Type:=List Int
abbrev R45.T:Type:=List UInt8
abbrev R46.T:Type:=List (List UInt8)
abbrev R47.T:Type:=Unit
abbrev R478.T:Type:=Int
abbrev R464.T:Type:=Int
abbrev R24.T:Type:=Bool
abbrev R66.T:Type:=Bool
abbrev R67.T:Type:=Bool
abbrev R29.T:Type:=List Int
abbrev R353.T:Type:=Int
abbrev R371.T:Type:=Bool
abbrev R346.T:Type:=Int
abbrev R98.T:Type:=List (List UInt8)
abbrev R373.T:Type:=(List UInt8)×Bool
abbrev R61.T:Type:=List Int
abbrev R60.T:Type:=List Int
abbrev R57.T:Type:=Bool
abbrev R70.T:Type:=Int
abbrev R71.T:Type:=Int
abbrev R72.T:Type:=Int
abbrev R73.T:Type:=List (List UInt8)
abbrev R99.T:Type:=List (List UInt8)
abbrev R37.T:Type:=Bool
abbrev R100.T:Type:=(List Int)×Int
abbrev R101.T:Type:=Bool
abbrev R102.T:Type:=Bool
abbrev R103.T:Type:=Bool
abbrev R104.T:Type:=List (List UInt8)
abbrev R105.T:Type:=Int
abbrev R108.T:Type:=List Int
abbrev R491.T:Type:=Int×Bool
abbrev R336.T:Type:=Int×Bool
abbrev R476.T:Type:=Int×Bool
abbrev R488.T:Type:=Unit
abbrev R490.T:Type:=List bY
abbrev R489.T:Type:=List bY
abbrev R465.T:Type:=Int
abbrev R473.T:Type:=Int
abbrev R366.T:Type:=Int
abbrev R375.T:Type:=Bool
abbrev R367.T:Type:=Int
abbrev R368.T:Type:=Int
abbrev R369.T:Type:=Int
abbrev R76.T:Type:=Bool
abbrev R77.T:Type:=Int
abbrev R78.T:Type:=Int
abbrev R79.T:Type:=List (List UInt8)
abbrev R80.T:Type:=Unit
abbrev R81.T:Type:=List (List UInt8)
abbrev R82.T:Type:=Int×Bool
abbrev R83.T:Type:=(List Int)×Int
abbrev R84.T:Type:=Unit
abbrev R85.T:Type:=List UInt8
abbrev R86.T:Type:=Int
abbrev R90.T:Type:=List (List UInt8)
abbrev R75.T:Type:=List ((List UInt8)×(List (List UInt8)))
abbrev R74.T:Type:=List (List UInt8)
abbrev R91.T:Type:=Bool
abbrev R92.T:Type:=Bool
abbrev R93.T:Type:=Bool
abbrev R469.T:Type:=Bool
abbrev R97.T:Type:=Bool
abbrev R109.T:Type:=Int
abbrev R68.T:Type:=List Int
abbrev R372.T:Type:=Bool
abbrev R106.T:Type:=Int
abbrev R110.T:Type:=Bool
abbrev R111.T:Type:=Int
abbrev R112.T:Type:=Bool
abbrev R137.T:Type:=List (List UInt8)
abbrev R138.T:Type:=List (List UInt8)
abbrev R139.T:Type:=List Int
abbrev R354.T:Type:=Int×Bool
abbrev R479.T:Type:=Int
abbrev R482.T:Type:=Int
abbrev R380.T:Type:=Bool
abbrev R381.T:Type:=Bool
abbrev R388.T:Type:=Bool
abbrev R376.T:Type:=List Int
abbrev R382.T:Type:=Bool
abbrev R390.T:Type:=Bool
abbrev R377.T:Type:=List ((List UInt8)×(List Int))
abbrev R18.T:Type:=Int
abbrev R113.T:Type:=Bool
abbrev R114.T:Type:=Bool
abbrev R115.T:Type:=Bool
abbrev R116.T:Type:=List UInt8
abbrev R117.T:Type:=Nat
abbrev R118.T:Type:=Bool
abbrev R120.T:Type:=Bool
abbrev R121.T:Type:=Bool
abbrev R124.T:Type:=Nat
abbrev R125.T:Type:=Int
abbrev R126.T:Type:=Int
abbrev R140.T:Type:=Bool
abbrev R142.T:Type:=Bool
abbrev R387.T:Type:=Bool
abbrev R384.T:Type:=Int
abbrev R389.T:Type:=Bool
abbrev R385.T:Type:=Unit
abbrev R383.T:Type:=List Int
abbrev R58.T:Type:=Int
abbrev R59.T:Type:=Bool
abbrev R141.T:Type:=Int
abbrev R143.T:Type:=Bool
abbrev R159.T:Type:=Bool
abbrev R160.T:Type:=Bool
abbrev R161.T:Type:=Bool
abbrev R166.T:Type:=Bool
abbrev R167.T:Type:=Bool
def elems:List (Nat×Fu):=[(52,C52),(24,C24),(90,C90),(116,C116),(155,C155),(65,C65),(54,C54),(60,C60),(3,C3),(9,C9),(93,C93),(50,C50),(4,C4),(114,C114),(112,C112),(164,C164),(128,C128),(137,C137),(110,C110),(5,C5),(74,C74)]
def vals:List (Nat×r5):=[(3,V3),(4,V4),(9,V9),(87,V87),(110,PD)]
def adb:List (Nat×r5):=[(3,⟨_,Q0⟩),(4,⟨_,Q0⟩),(5,⟨_,Q0⟩),(6,⟨_,Q0⟩),(7,⟨_,Q0⟩),(8,⟨_,Q0⟩),(9,⟨_,Q0⟩),(10,⟨_,Q0⟩),(11,⟨_,Q0⟩),(12,⟨_,Q1⟩),(13,⟨_,Q1⟩),(14,⟨_,Q2⟩),(15,⟨_,Q0⟩),(16,⟨_,Q0⟩),(17,⟨_,Q3⟩),(18,⟨_,Q3⟩),(19,⟨_,Q9⟩),(20,⟨_,Q0⟩),(21,⟨_,Q0⟩),(22,⟨_,Q4⟩),(23,⟨_,Q9⟩),(24,⟨_,Q5⟩),(25,⟨_,Q5⟩),(26,⟨_,Q0⟩),(27,⟨_,Q10⟩),(28,⟨_,Q3⟩),(29,⟨_,Q6⟩),(30,⟨_,Q3⟩),(31,⟨_,Q3⟩),(32,⟨_,Q2⟩),(33,⟨_,Q5⟩),(34,⟨_,Q4⟩),(35,⟨_,Q9⟩),(36,⟨_,Q6⟩),(37,⟨_,Q3⟩),(38,⟨_,Q3⟩),(39,⟨_,Q7⟩),(40,⟨_,Q8⟩),(41,⟨_,Q5⟩),(42,⟨_,Q5⟩),(43,⟨_,Q0⟩),(44,⟨_,Q9⟩),(45,⟨_,Q9⟩),(46,⟨_,Q9⟩),(47,⟨_,Q11⟩),(48,⟨_,Q0⟩),(49,⟨_,Q5⟩),(50,⟨_,Q19⟩),(51,⟨_,Q0⟩),(52,⟨_,Q5⟩),(53,⟨_,Q3⟩),(55,⟨_,Q20⟩),(56,⟨_,Q7⟩),(57,⟨_,Q24⟩),(58,⟨_,Q0⟩),(59,⟨_,Q18⟩),(60,⟨_,Q0⟩),(61,⟨_,Q3⟩),(62,⟨_,Q5⟩),(63,⟨_,Q12⟩),(64,⟨_,Q13⟩),(65,⟨_,Q15⟩),(66,⟨_,Q17⟩),(67,⟨_,Q14⟩),(68,⟨_,Q19⟩),(69,⟨_,Q0⟩),(70,⟨_,Q15⟩),(71,⟨_,Q9⟩),(72,⟨_,Q9⟩),(73,⟨_,Q0⟩),(74,⟨_,Q27⟩),(75,⟨_,Q5⟩),(76,⟨_,Q10⟩),(77,⟨_,Q0⟩),(78,⟨_,Q0⟩),(79,⟨_,Q5⟩),(80,⟨_,Q18⟩),(81,⟨_,Q28⟩),(83,⟨_,Q20⟩),(84,⟨_,Q17⟩),(85,⟨_,Q12⟩),(86,⟨_,Q13⟩),(87,⟨_,Q15⟩),(88,⟨_,Q0⟩),(89,⟨_,Q19⟩),(90,⟨_,Q5⟩),(91,⟨_,Q5⟩),(92,⟨_,Q5⟩),(93,⟨_,Q16⟩),(94,⟨_,Q26⟩),(95,⟨_,Q5⟩),(96,⟨_,Q5⟩),(97,⟨_,Q16⟩),(98,⟨_,Q21⟩),(99,⟨_,Q22⟩),(100,⟨_,Q20⟩),(101,⟨_,Q0⟩),(102,⟨_,Q0⟩),(103,⟨_,Q25⟩),(104,⟨_,Q5⟩),(105,⟨_,Q0⟩),(106,⟨_,Q23⟩),(107,⟨_,Q15⟩),(108,⟨_,Q15⟩),(109,⟨_,Q24⟩),(110,⟨_,Q11⟩),(111,⟨_,Q3⟩),(112,⟨_,Q0⟩),(113,⟨_,Q0⟩),(114,⟨_,Q0⟩),(115,⟨_,Q5⟩),(116,⟨_,Q3⟩),(117,⟨_,Q5⟩),(118,⟨_,Q34⟩),(120,⟨_,Q29⟩),(121,⟨_,Q5⟩),(122,⟨_,Q30⟩),(123,⟨_,Q31⟩),(124,⟨_,Q5⟩),(125,⟨_,Q0⟩),(126,⟨_,Q0⟩),(127,⟨_,Q15⟩),(128,⟨_,Q20⟩),(129,⟨_,Q16⟩),(130,⟨_,Q18⟩),(132,⟨_,Q5⟩),(133,⟨_,Q5⟩),(136,⟨_,Q0⟩),(137,⟨_,Q0⟩),(138,⟨_,Q0⟩),(139,⟨_,Q21⟩),(140,⟨_,Q5⟩),(141,⟨_,Q0⟩),(142,⟨_,Q5⟩),(143,⟨_,Q16⟩),(144,⟨_,Q25⟩),(145,⟨_,Q21⟩),(146,⟨_,Q21⟩),(147,⟨_,Q0⟩),(148,⟨_,Q5⟩),(149,⟨_,Q5⟩),(150,⟨_,Q5⟩),(151,⟨_,Q16⟩),(152,⟨_,Q16⟩),(153,⟨_,Q0⟩),(154,⟨_,Q32⟩),(155,⟨_,Q0⟩),(156,⟨_,Q0⟩),(157,⟨_,Q0⟩),(158,⟨_,Q16⟩),(159,⟨_,Q5⟩),(160,⟨_,Q21⟩),(161,⟨_,Q19⟩),(162,⟨_,Q19⟩),(163,⟨_,Q19⟩),(164,⟨_,Q18⟩),(165,⟨_,Q28⟩),(166,⟨_,Q33⟩),(168,⟨_,Q5⟩),(169,⟨_,Q5⟩),(171,⟨_,Q5⟩),(172,⟨_,Q0⟩),(173,⟨_,Q5⟩),(174,⟨_,Q5⟩),(175,⟨_,Q5⟩),(176,⟨_,Q0⟩),(177,⟨_,Q5⟩),(178,⟨_,Q5⟩),(179,⟨_,Q16⟩),(180,⟨_,Q18⟩),(181,⟨_,Q16⟩),(182,⟨_,Q19⟩),(183,⟨_,Q32⟩),(184,⟨_,Q18⟩),(185,⟨_,Q20⟩),(186,⟨_,Q5⟩),(190,⟨_,Q16⟩),(191,⟨_,Q35⟩),(192,⟨_,Q16⟩),(193,⟨_,Q0⟩),(194,⟨_,Q0⟩),(195,⟨_,Q0⟩),(198,⟨_,Q0⟩),(200,⟨_,Q0⟩),(201,⟨_,Q5⟩),(202,⟨_,Q21⟩),(203,⟨_,Q0⟩),(204,⟨_,Q34⟩),(205,⟨_,Q0⟩),(206,⟨_,Q5⟩),(207,⟨_,Q0⟩),(208,⟨_,Q16⟩),(209,⟨_,Q16⟩),(210,⟨_,Q15⟩),(211,⟨_,Q19⟩),(215,⟨_,Q5⟩),(216,⟨_,Q5⟩),(221,⟨_,Q0⟩),(222,⟨_,Q0⟩),(223,⟨_,Q0⟩),(224,⟨_,Q15⟩),(225,⟨_,Q0⟩),(226,⟨_,Q0⟩),(227,⟨_,Q36⟩),(228,⟨_,Q5⟩),(229,⟨_,Q0⟩),(230,⟨_,Q0⟩),(231,⟨_,Q0⟩),(232,⟨_,Q20⟩),(233,⟨_,Q37⟩),(234,⟨_,Q0⟩),(236,⟨_,Q0⟩),(237,⟨_,Q0⟩),(240,⟨_,Q37⟩),(241,⟨_,Q5⟩),(242,⟨_,Q5⟩),(253,⟨_,Q0⟩),(260,⟨_,Q0⟩),(261,⟨_,Q0⟩),(262,⟨_,Q5⟩),(263,⟨_,Q0⟩),(264,⟨_,Q18⟩),(265,⟨_,Q21⟩),(266,⟨_,Q5⟩),(267,⟨_,Q0⟩),(268,⟨_,Q5⟩),(269,⟨_,Q0⟩),(285,⟨_,Q0⟩),(286,⟨_,Q0⟩),(296,⟨_,Q0⟩),(301,⟨_,Q0⟩),(302,⟨_,Q0⟩)]
def nM:lY:={ elem:=Bw elems,val:=Bw vals,res:=Bw adb,ptr:=some ⟨table,table.enc⟩ }
def eH:List Nat:=[10000,10001,10002,10003,10004,10005,10006,10007,10008,20000,20001,20002,20003,20004,20005,20006,20007,20008,20009,20010,20011]
def hints:List (Nat×Hint):=[
 (5,{ loops:=[(8,[2,4,7,8,9],[4,7,8])] }),
 (6,{ loops:=[(8,[2,4,7,8,9,10,11],[4,7,8,9])] }),
 (7,{ loops:=[(8,[3,5,6,7],[3,5])] }),
 (8,{ loops:=[(8,[2,7,8,9],[7,8]),(12,[2,7,8,9,10,11],[7,8])] }),
 (9,{ loops:=[(4,[1,3],[1]),(9,[1,3,4],[1])] }),
 (11,{ loops:=[(4,[0,1,5],[])] }),
 (12,{ loops:=[(3,[1,3,12,13,14],[1,3]),(9,[3,6,36,37,38],[3,6])],rows:=[3] }),
 (13,{ loops:=[(4,[1,3,4,5],[1,3]),(9,[3,6,7],[3])],rows:=[3] }),
 (15,{ loops:=[(4,[2,3,7],[3])] }),
 (17,{ loops:=[(4,[6,7,8,19,20,21],[6,16]),(8,[6,7,8,19,20,21,29,30,31],[6,16])],jT:=[18],bx:=[16] }),
 (18,{ loops:=[(3,[2,3,6,7,8],[3,4,6,7,9,13]),(10,[2,3,6,7,8,11,12],[3,4,6,7,9,13])] }),
 (22,{ loops:=[(4,[1,3,4,5],[1,4]),(8,[1,3,4,5,6,7],[1,4])],rows:=[4,30],mu:=[8] }),
 (23,{ loops:=[(5,[2,4,6,19,20,21],[2,4,6,9])] }),
 (24,{ loops:=[(5,[2,3,5,7],[2,3,5]),(11,[2,3,5,7,8,9],[2,3,5,8])] }),
 (25,{ loops:=[(5,[2,3,19,20,21],[2,3]),(8,[2,3,7,19,20,21,26,27,28],[2,3,7])] }),
 (26,{ loops:=[(4,[1,3],[1])] }),
 (29,{ rows:=[9] }),
 (30,{ loops:=[(3,[0,3,4,5,13,14,15],[3,4,5,5080,5081,5082,5083,5084,5085]),(8,[0,4,5,33,34,35],[3,4,5,5080,5081,5082,5083,5084,5085]),(12,[0,4,5,10,33,34,35,43,44,45],[3,4,5,9,10,5080,5081,5082,5083,5084,5085,5160,5161,5162,5163,5164,5165,5656,5657,5658,5659,5660,5661])],rows:=[5,10,41],nV:=[(16,[5160,5161,5162,5163,5164,5165,5656,5657,5658,5659,5660,5661]),(18,[5080,5081,5082,5083,5084,5085])] }),
 (32,{ loops:=[(3,[2,3,8,9],[2,3,5,5048,5049,5050,5051,5052,5053,5112,5113,5114,5115,5116,5117])],rows:=[3,7],nV:=[(7,[5048,5049,5050,5051,5052,5053,5112,5113,5114,5115,5116,5117])] }),
 (33,{ loops:=[(3,[3,9,10,11],[1]),(6,[3,9,10,11,16,17,18],[1,5])] }),
 (34,{ loops:=[(4,[3,4,13,14,15],[1,4]),(7,[3,4,5,13,14,15,21,22,23],[1,4,6])],rows:=[4],mu:=[9],stay:=[31,42],owns:=[31] }),
 (35,{ rows:=[22] }),
 (36,{ loops:=[(6,[1,3,4,5,6],[1,12,16,19]),(10,[1,3,4,5,6,7,8],[1,12,16,19])],rows:=[12,16,19,63],use:=[78] }),
 (37,{ loops:=[(3,[0,3,4,5,6],[3,4,5,5080,5081,5082,5083,5084,5085]),(7,[0,3,4,5,7],[3,4,5,5080,5081,5082,5083,5084,5085]),(12,[0,3,4,5,7,8,9,10],[3,4,5,8,5080,5081,5082,5083,5084,5085,5128,5129,5130,5131,5132,5133,5704,5705,5706,5707,5708,5709])],rows:=[5,8,44],nV:=[(15,[5128,5129,5130,5131,5132,5133,5704,5705,5706,5707,5708,5709]),(16,[5080,5081,5082,5083,5084,5085])] }),
 (38,{ loops:=[(4,[0,1,4,5,6],[4,5,10,5080,5081,5082,5083,5084,5085]),(10,[0,1,4,5,7,8],[4,5,10,5080,5081,5082,5083,5084,5085])],rows:=[5,34],nV:=[(19,[5080,5081,5082,5083,5084,5085])],take:=[74,100],nilz:=[(14,[1]),(39,[1]),(87,[1])],nest:=[(5064,1,54,2),(5080,1,54,2),(5160,1,54,2)] }),
 (39,{ loops:=[(7,[0,2,4,6,8,9],[2,8,5128,5129,5130,5131,5132,5133])],rows:=[8],mu:=[4,6],nV:=[(12,[5128,5129,5130,5131,5132,5133])] }),
 (41,{ loops:=[(5,[2,3,6],[2,3]),(9,[2,3,6,7,8],[2,3])] }),
 (42,{ loops:=[(4,[5,6,7],[])] }),
 (45,{ rows:=[10] }),
 (46,{ loops:=[(3,[3,4,6,16,17,18],[2,3,4,10,14,68,5160,5161,5162,5163,5164,5165,5208,5209,5210,5211,5212,5213,6104,6105,6106,6107,6108,6109]),(9,[3,4,6,9],[2,3,4,10,14,68,5160,5161,5162,5163,5164,5165,5208,5209,5210,5211,5212,5213,6104,6105,6106,6107,6108,6109]),(15,[4,6,10,72,73],[2,4,10,14,68,5160,5161,5162,5163,5164,5165,5208,5209,5210,5211,5212,5213,6104,6105,6106,6107,6108,6109])],rows:=[10,13,69],nV:=[(19,[68,5160,5161,5162,5163,5164,5165,6104,6105,6106,6107,6108,6109])],stay:=[68],owns:=[68] }),
 (47,{ loops:=[(3,[3,4,5,8,22,23],[3,4,5,20]),(10,[3,5,8,10,33,34,35],[3,4,5,20]),(16,[3,5,8,10,13,33,34,35,60,61,62],[3,4,5,12,20])],rows:=[20] }),
 (48,{ loops:=[(4,[0,1,5],[])] }),
 (49,{ loops:=[(5,[2,3,5,20,21,22],[2,3,5]),(10,[2,3,5,20,21,22,33,34,35],[2,3,5,8])] }),
 (50,{ loops:=[(2,[2,15,16,17],[3])] }),
 (52,{ loops:=[(6,[1,3],[1])] }),
 (53,{ loops:=[(3,[1,2,4,5,6],[2,4,7,14,5112,5113,5114,5115,5116,5117,5208,5209,5210,5211,5212,5213]),(9,[2,4,5,7,8],[2,4,7,14,5112,5113,5114,5115,5116,5117,5208,5209,5210,5211,5212,5213]),(14,[2,4,5,7,8,9,10,11],[2,4,7,9,14,56,5112,5113,5114,5115,5116,5117,5208,5209,5210,5211,5212,5213])],rows:=[7,13],nV:=[(17,[56]),(18,[5112,5113,5114,5115,5116,5117])],owns:=[56] }),
 (56,{ loops:=[(12,[2,6,7,8,40,41,42],[2,8,5128,5129,5130,5131,5132,5133,5624,5625,5626,5627,5628,5629])],rows:=[8,39],mu:=[4,6,7],nV:=[(16,[5128,5129,5130,5131,5132,5133,5624,5625,5626,5627,5628,5629])] }),
 (57,{ rows:=[2,5],stay:=[7],own:=true }),
 (58,{ loops:=[(4,[0,1,12,13],[])],stay:=[7,9,12] }),
 (59,{ loops:=[(2,[0,4,15,16,17],eH),(8,[0,4,7,15,16,17,46,47,48],[6,7]++eH)],rows:=[7],nV:=[(12,[7])] }),
 (60,{ loops:=[(3,[3,7,8],[3,7,15,5112,5113,5114,5115,5116,5117]++eH)],rows:=[7,15],jT:=[16] }),
 (61,{ loops:=[(3,[1,2,4,5,16,17],[2,4,5,7,14,5080,5081,5082,5083,5084,5085,5112,5113,5114,5115,5116,5117]++eH)],rows:=[5,7,14],jT:=[24],nV:=[(11,[5112,5113,5114,5115,5116,5117])] }),
 (62,{ loops:=[(2,[0,1,5],[])] }),
 (63,{ loops:=[(8,[0,5,7,8,9],[8]),(12,[0,5,7,8,9,10,11],[8,10])],rows:=[8,10],mu:=[5,7,12],nV:=[(17,[10])] }),
 (64,{ loops:=[(7,[0,5,6,7],[6]),(15,[0,5,6,8,9,10],[6]),(19,[0,5,6,8,9,10,11,12],[6,11])],rows:=[6,13],mu:=[5,8,9] }),
 (65,{ loops:=[(3,[0,1,5,6],[5]),(8,[0,1,5,6,7,8],[5])],rows:=[5] }),
 (66,{ loops:=[(8,[0,5,7,8,9],[8])],rows:=[8],mu:=[5,7] }),
 (67,{ loops:=[(5,[2,6,7,8],[6,7,14,5112,5113,5114,5115,5116,5117,5160,5161,5162,5163,5164,5165])],rows:=[7,10,14],nV:=[(8,[14,5112,5113,5114,5115,5116,5117,5160,5161,5162,5163,5164,5165])] }),
 (68,{ loops:=[(3,[2,8,9],[])],mu:=[8] }),
 (70,{ loops:=[(3,[1,3,4],[1,10]),(8,[1,3,4,5,6],[1,10])],rows:=[10] }),
 (71,{ owns:=[20],use:=[20] }),
 (72,{ loops:=[(3,[2,3,4,6,7],[2,3,4,6,13,5208,5209,5210,5211,5212,5213]),(7,[2,3,4,6,8],[2,3,4,6,13,5208,5209,5210,5211,5212,5213]),(10,[2,3,4,6,9,10],[2,3,4,6,13,5208,5209,5210,5211,5212,5213]),(14,[2,3,4,6,9,10,11,12],[2,3,4,6,13,5208,5209,5210,5211,5212,5213]),(21,[3,4,6,13,14],[3,4,6,13,5208,5209,5210,5211,5212,5213])],rows:=[6,13,32],mu:=[9],jT:=[55],nV:=[(24,[5208,5209,5210,5211,5212,5213])] }),
 (73,{ loops:=[(2,[0,2,4,18,19,20],[4]++eH),(8,[0,2,44,45,46],[4]++eH)] }),
 (74,{ rows:=[2,5],stay:=[7],own:=true }),
 (75,{ loops:=[(2,[1,8,9,10],[2])] }),
 (76,{ loops:=[(6,[1,2,18,19,20],[1,2])] }),
 (78,{ loops:=[(2,[1,7,8,9],[])] }),
 (79,{ loops:=[(2,[0,1,5],[]),(7,[0,1,5,6],[])] }),
 (80,{ loops:=[(4,[0,4,5],eH)],mu:=[4],owns:=[36] }),
 (81,{ loops:=[(3,[0,3,4],[3,6]),(6,[0,3,4,5],[3,6])],rows:=[2,3,6],mvs:=[2,3,6],own:=true }),
 (82,{ loops:=[(4,[0,1,3,4,5,6],[12,15,16]++eH),(8,[0,1,3,4,5,6,42,43,44],[12,15,16]++eH)],rows:=[12,15,16],stay:=[68],owns:=[68],use:=[72] }),
 (84,{ loops:=[(6,[4,6,20,21,22],[6])],rows:=[6] }),
 (86,{ loops:=[(10,[0,5,6,9,34,35,36],[9]),(18,[0,5,6,9,12,14,34,35,36,53,54,55],[9,12,14])],rows:=[9,14],mu:=[5,6,7],jT:=[77] }),
 (87,{ loops:=[(3,[1,2,5,6,12,13],[2,5,6]),(9,[2,5,6,30,31,32],[2,5,6])],rows:=[5,6],nV:=[(8,[2])] }),
 (88,{ loops:=[(8,[0,2,3,9,10,11],[11]++eH)],rows:=[11],mu:=[9,10],use:=[150] }),
 (89,{ stay:=[29] }),
 (90,{ loops:=[(1,[0,1],eH)] }),
 (91,{ loops:=[(9,[3,4,7,8,49,50,51],[8]++eH)],rows:=[8],use:=[69] }),
 (92,{ loops:=[(11,[0,3,5,7],[]),(17,[0,3,5,10],[]),(20,[0,3,5,10,11],[])],mu:=[3,5,12] }),
 (93,{ loops:=[(3,[0,3,4],[]),(6,[0,3,4,5],[])],mu:=[3] }),
 (94,{ loops:=[(4,[0,1,2,3,10,11,12],[])],mu:=[11] }),
 (95,{ loops:=[(3,[0,5,6],[])],mu:=[5] }),
 (96,{ loops:=[(12,[0,6,7],[])] }),
 (97,{ loops:=[(3,[0,3,4],[])],mu:=[3] }),
 (98,{ loops:=[(4,[1,7,8,9],[8])],rows:=[8],mu:=[7,10] }),
 (99,{ loops:=[(3,[3,4],[7]),(6,[3,4,5],[7])],rows:=[7],mu:=[6] }),
 (100,{ loops:=[(3,[0,1,2,3,9,10],[9]),(12,[9,11,12],[9])],rows:=[9] }),
 (103,{ loops:=[(3,[0,1,6,7],[])],mu:=[6,10] }),
 (104,{ loops:=[(2,[0,1,5],[])] }),
 (106,{ loops:=[(3,[0,1,5,6],[9]),(7,[0,1,5,6,7,8],[7,9,5112,5113,5114,5115,5116,5117,5368,5369,5370,5371,5372,5373])],rows:=[7,9,23],nV:=[(10,[5112,5113,5114,5115,5116,5117,5368,5369,5370,5371,5372,5373])] }),
 (107,{ loops:=[(5,[0,1,5,6,7,8],[7,20,23]),(11,[5,6,7,9],[7,20,23]),(17,[5,6,7,9,10,11,12],[7,20,23]),(23,[5,6,7,9,10,11,13,14],[7,20,23,112])],rows:=[7,23,112],owns:=[20],use:=[158] }),
 (108,{ loops:=[(5,[7,8,9,10],[29])],rows:=[29] }),
 (109,{ loops:=[(3,[0,3,4],[3])],rows:=[2,3],mvs:=[2,3],own:=true }),
 (110,{ loops:=[(3,[1,2,3,8,9],[3,15]),(10,[1,2,8,12],[15])],rows:=[15] }),
 (111,{ loops:=[(3,[0,1,2,3,8,9,10],[8,9,5144,5145,5146,5147,5148,5149]),(7,[0,1,3,8,9,11],[8,9,5144,5145,5146,5147,5148,5149]),(11,[0,1,3,8,9,11,12,13],[8,9,5144,5145,5146,5147,5148,5149])],rows:=[9],nV:=[(17,[5144,5145,5146,5147,5148,5149])],take:=[79],nilz:=[(29,[1])],nest:=[(5128,1,54,2),(5144,1,54,2)] }),
 (113,{ loops:=[(2,[0,1,5],[])] }),
 (115,{ loops:=[(5,[1,5,13,14,15],[2,11])] }),
 (116,{ loops:=[(8,[2,4,5,8,22,23,24],[2,4,5,6,8,13,20,5096,5097,5098,5099,5100,5101,5128,5129,5130,5131,5132,5133,5336,5337,5338,5339,5340,5341]),(12,[2,4,5,8,9,10,11,22,23,24,38,39],[2,4,5,6,8,13,20,36,5096,5097,5098,5099,5100,5101,5128,5129,5130,5131,5132,5133,5336,5337,5338,5339,5340,5341])],rows:=[6,8,20,21],jT:=[14],nV:=[(16,[36]),(18,[20,5128,5129,5130,5131,5132,5133,5336,5337,5338,5339,5340,5341])],stay:=[35,36],owns:=[36] }),
 (117,{ stay:=[20] }),
 (120,{ loops:=[(6,[4,6,24,25,26],[21,23,5352,5353,5354,5355,5356,5357])],rows:=[22],mu:=[4],nV:=[(8,[8])],stay:=[38] }),
 (121,{ loops:=[(11,[0,5,20,21,22],[])] }),
 (122,{ loops:=[(3,[0,4,15,16,17],[4]),(10,[0,4,7,32,33,34],[4,31]),(14,[0,4,7,8,10,32,33,34,41,42,43],[4,10,31])],rows:=[4,10,31],jT:=[27] }),
 (123,{ loops:=[(5,[5,6,13,14,15],[4,5,11,5080,5081,5082,5083,5084,5085]),(10,[5,6,9],[4,5,11,5080,5081,5082,5083,5084,5085]),(13,[5,6,9,10],[4,5,11,5080,5081,5082,5083,5084,5085])],rows:=[5],mu:=[8],jT:=[12] }),
 (124,{ loops:=[(2,[1,7,8,9],eH)],mu:=[6] }),
 (127,{ loops:=[(3,[3,6,7,8],[3]),(5,[3,4,5,6,7,8],[3])],rows:=[3] }),
 (128,{ loops:=[(12,[0,1,5,39,40,41],[]),(22,[1,8,63,64,65],[8,5128,5129,5130,5131,5132,5133])],rows:=[8] }),
 (129,{ loops:=[(5,[5,6,7,17,18,19],[7])],rows:=[7],mu:=[5] }),
 (130,{ jT:=[7],stay:=[6,11,13] }),
 (132,{ loops:=[(3,[3,6,7,8],[])] }),
 (134,{ loops:=[(3,[3,6,7,8],[])] }),
 (138,{ stay:=[7] }),
 (139,{ loops:=[(3,[0,1,5,14,15],[12])],rows:=[12] }),
 (140,{ loops:=[(2,[0,1,7,8],eH)],stay:=[7,16] }),
 (142,{ loops:=[(3,[0,3,4],[]),(7,[0,3,4,5,6],[]),(12,[0,3,4,5,6,7],[])],mu:=[3,5] }),
 (143,{ loops:=[(3,[0,1,5,6],[5])],rows:=[5] }),
 (144,{ loops:=[(2,[1,2,6],[2])] }),
 (145,{ loops:=[(3,[0,1,5,6],[5])],rows:=[5] }),
 (146,{ loops:=[(2,[0,3],[])],rows:=[18] }),
 (147,{ loops:=[(4,[0,1,5],[])] }),
 (148,{ loops:=[(4,[0,3],[])] }),
 (149,{ loops:=[(2,[0,3],[])] }),
 (150,{ loops:=[(2,[0,3],[]),(6,[0,3,4,5],[])],mu:=[4] }),
 (151,{ loops:=[(3,[0,3,4],[3]),(7,[0,3,4,5,6],[3])],rows:=[3] }),
 (152,{ loops:=[(5,[0,5,6],[15]),(8,[0,5,6,7],[15]),(14,[5,8,9],[15])],rows:=[15],mu:=[8] }),
 (153,{ loops:=[(2,[0,1,5],[])] }),
 (154,{ loops:=[(3,[0,4,5],[6])],rows:=[6] }),
 (155,{ loops:=[(2,[0,1,5],[])] }),
 (158,{ loops:=[(4,[0,5,6,7],[5]),(9,[0,5,6,7,8,9,10],[5])],rows:=[5],mu:=[6,8] }),
 (160,{ loops:=[(3,[0,1,5,6],[5])],rows:=[5] }),
 (161,{ loops:=[(2,[0,1,6],[])] }),
 (163,{ loops:=[(3,[2,8,9],[])] }),
 (164,{ loops:=[(3,[2,4,25,26,27],[25]++eH)],stay:=[24,25],owns:=[25] }),
 (165,{ rows:=[4],jT:=[8],stay:=[7,10],own:=true }),
 (168,{ loops:=[(2,[0,1,2,11,12,13],eH)],stay:=[12,20,29,35,37] }),
 (169,{ stay:=[27] }),
 (170,{ mu:=[8],jT:=[30] }),
 (171,{ loops:=[(2,[0,1,7,8],eH)],stay:=[7,16] }),
 (173,{ loops:=[(3,[0,3,19,20,21],[15]++eH),(6,[0,3,19,20,21,26,27,28],[5,15]++eH),(14,[0,3,43,44,45],[15]++eH),(17,[0,3,9,43,44,45,50,51,52],[9,15]++eH),(29,[0,82],[82]++eH)],jT:=[65,100],stay:=[66,101],blk:=[(28,Qm,Ql)] }),
 (174,{ loops:=[(2,[1,10,11,12],[1]++eH)],jT:=[20],stay:=[18,21] }),
 (175,{ loops:=[(2,[0,15,16],eH),(7,[0,4,5,15,16,25,26,27],[4]++eH)],rows:=[4],mu:=[8],nV:=[(16,[4])],stay:=[21] }),
 (177,{ loops:=[(3,[3,9,10,11],[8])] }),
 (178,{ loops:=[(3,[3,12,13,14],[]),(6,[3,5,12,13,14,19,20,21],[5])],mu:=[8] }),
 (179,{ loops:=[(5,[3,4,5,18,19,20],[5,16,17]),(11,[3,4,5,7,18,19,20,40,41,42],[5,7,16,17]),(17,[3,4,5,10],[5,10,16,17]),(22,[3,4,5,10,71,72,73],[5,10,16,17])],rows:=[5,10,17,46,48],jT:=[62],nV:=[(16,[17])] }),
 (180,{ jT:=[5],stay:=[4,9,10] }),
 (181,{ loops:=[(3,[1,5,15,16,17],[14]),(9,[1,5,7,15,16,17,34,35,36],[7,14])],rows:=[14,30,40,42],mu:=[8],nV:=[(14,[14])] }),
 (182,{ loops:=[(3,[0,1,6,7,8],[])],stay:=[11,27,47,50] }),
 (183,{ loops:=[(3,[0,4,10,11,12],[]),(11,[7,30,31,32],[29])],rows:=[29] }),
 (185,{ loops:=[(3,[3,11,12,13],[10]),(6,[3,5,6,11,12,13],[10])],rows:=[10] }),
 (190,{ loops:=[(4,[5,6,13,14,15],[6])],rows:=[6],mu:=[9],jT:=[31,33] }),
 (191,{ loops:=[(3,[3,9,10,11],[8])] }),
 (192,{ loops:=[(7,[0,7,8,9],[20,24]),(10,[0,7,8,9,36,37,38],[20,24])],rows:=[24],mu:=[5],jT:=[53] }),
 (194,{ stay:=[7] }),
 (195,{ stay:=[7] }),
 (196,{ loops:=[(2,[0,1,2,3,4,10,11],eH)],jT:=[26,33,40,57,76,98,106,129,140],stay:=[30,37,44,52,61,80,94,103,111,134,146] }),
 (201,{ loops:=[(2,[0,1,7,8],eH)],stay:=[7,16] }),
 (202,{ loops:=[(2,[0,3],[])] }),
 (206,{ loops:=[(2,[0,1,5],[])] }),
 (207,{ loops:=[(2,[1,2,5],[2])] }),
 (208,{ loops:=[(3,[0,1,5,6],[])],mu:=[5] }),
 (209,{ loops:=[(5,[0,5,6],[16]),(9,[0,5,6,7,8],[16]),(15,[5,9,10],[16])],rows:=[16],mu:=[7,9] }),
 (210,{ loops:=[(3,[0,3,4],[3])],rows:=[3] }),
 (211,{ loops:=[(2,[1,2,6],[2])] }),
 (212,{ stay:=[4] }),
 (213,{ jT:=[7],stay:=[6,11,13] }),
 (214,{ loops:=[(1,[0,5,6,7],eH)],stay:=[6,13] }),
 (215,{ loops:=[(2,[0,1,2,11,12,13],eH)],stay:=[12,20,29,35,37] }),
 (219,{ loops:=[(1,[0,1,4],[10000])] }),
 (220,{ loops:=[(11,[0,1,3,4,10,11,12,13,14,15,16],[12,10000]),(18,[0,1,3,4,10,11,12,13,17],[12,10000])] }),
 (222,{ stay:=[7] }),
 (224,{ loops:=[(3,[0,3,5,11,12,13],[3,5]++eH)],rows:=[5],nV:=[(2,[3])],stay:=[20] }),
 (225,{ jT:=[6],stay:=[7] }),
 (227,{ loops:=[(4,[1,2,5,6,16,17,18],[2,5,11]++eH),(8,[1,2,5,6,16,17,18,36,37,38],[2,5,8,11]++eH)],jT:=[12],stay:=[33],keep:=[10001,10002,10003,10004] }),
 (229,{ stay:=[7] }),
 (232,{ loops:=[(5,[0,3,4],[])],stay:=[6,14,23] }),
 (233,{ loops:=[(5,[0,1,5,6],eH)],stay:=[10,18,28] }),
 (235,{ loops:=[(2,[0,1,2,3,8,9],[10000])],jT:=[24,30,36,51,69,88,95,117,127],stay:=[27,33,39,46,54,72,85,92,99,121,132] }),
 (239,{ mu:=[4] }),
 (240,{ loops:=[(4,[0,3],[10000]),(9,[0,3,4,5],[10000])],mu:=[4],stay:=[7,12,31] }),
 (241,{ loops:=[(2,[0,1,7,8],[])],stay:=[7] }),
 (242,{ loops:=[(2,[0,1,7,8],eH)],stay:=[7,16] }),
 (243,{ loops:=[(1,[0,1,2,3,8],eH),(4,[0,1,2,3,8,9],eH)],stay:=[32] }),
 (244,{ loops:=[(4,[0,3,8,9,10,11],eH),(8,[0,3,8,9,12],eH)],jT:=[24,54],stay:=[29,59] }),
 (245,{ loops:=[(5,[0,1,8,9,10,11],[9]++eH)],stay:=[21,38] }),
 (246,{ stay:=[40,44,48,54] }),
 (247,{ loops:=[(2,[0,8,9],eH)] }),
 (248,{ loops:=[(3,[0,1,2,3,9,10],eH),(5,[0,1,2,3,9,10],eH),(14,[0,1,2,3,9,10,11],eH),(20,[0,1,2,3,9,10,12],eH)],stay:=[33,82,122] }),
 (249,{ loops:=[(3,[0,1,4,11,12],eH),(5,[0,1,4,11,12],eH)],stay:=[44,63] }),
 (250,{ loops:=[(3,[0,1,4,12,13],eH),(5,[0,1,4,12,13],eH),(13,[0,1,4,12,13],eH),(15,[0,1,4,12,13],eH)],stay:=[45,63,118,136] }),
 (253,{ loops:=[(4,[0,1,5],[])] }),
 (255,{ loops:=[(2,[0,1,2,3,4,10,11],eH)],jT:=[26,33,40,57,76,98,106,129,140],stay:=[30,37,44,52,61,80,94,103,111,134,146] }),
 (260,{ loops:=[(4,[1,16],[16]++eH)] }),
 (262,{ loops:=[(2,[0,1,7,8],eH)],stay:=[7,16] }),
 (264,{ mu:=[4,5],stay:=[10] }),
 (266,{ loops:=[(2,[1,7,8,9],eH)] }),
 (268,{ loops:=[(2,[0,1,7,8],eH)],stay:=[7,16] }),
 (270,{ loops:=[(1,[0,1,2,6],[10000]),(4,[0,1,2,6,7],[10000])],stay:=[29] }),
 (271,{ loops:=[(4,[0,6,7,8,9],[10000]),(8,[0,6,7,10],[10000])],jT:=[22,51],stay:=[26,55] }),
 (272,{ loops:=[(5,[0,1,6,7,8,9],[7,10000])],stay:=[19,36] }),
 (273,{ stay:=[37,40,43,48] }),
 (274,{ loops:=[(2,[0,6,7],[10000])] }),
 (275,{ loops:=[(3,[0,1,2,7,8],[10000]),(5,[0,1,2,7,8],[10000]),(14,[0,1,2,7,8,9],[10000]),(20,[0,1,2,7,8,10],[10000])],stay:=[30,77,115] }),
 (276,{ loops:=[(3,[0,1,9,10],[10000]),(5,[0,1,9,10],[10000])],stay:=[41,58] }),
 (277,{ loops:=[(3,[0,1,10,11],[10000]),(5,[0,1,10,11],[10000]),(13,[0,1,10,11],[10000]),(15,[0,1,10,11],[10000])],stay:=[42,58,111,127] }),
 (280,{ loops:=[(1,[0,2,3,4,10],eH)],stay:=[38,56] }),
 (281,{ stay:=[5] }),
 (283,{ stay:=[17] }),
 (284,{ stay:=[19,28,37] }),
 (287,{ loops:=[(1,[0,1,2,3,8],eH),(4,[0,1,2,3,8,9],eH)],stay:=[32] }),
 (288,{ loops:=[(4,[0,3,8,9,10,11],eH),(8,[0,3,8,9,12],eH)],jT:=[24,54],stay:=[29,59] }),
 (289,{ loops:=[(5,[0,1,8,9,10,11],[9]++eH)],stay:=[21,38] }),
 (290,{ stay:=[40,44,48,54] }),
 (291,{ loops:=[(2,[0,8,9],eH)] }),
 (292,{ loops:=[(3,[0,1,2,3,9,10],eH),(5,[0,1,2,3,9,10],eH),(14,[0,1,2,3,9,10,11],eH),(20,[0,1,2,3,9,10,12],eH)],stay:=[33,82,122] }),
 (293,{ loops:=[(3,[0,1,4,11,12],eH),(5,[0,1,4,11,12],eH)],stay:=[44,63] }),
 (294,{ loops:=[(3,[0,1,4,12,13],eH),(5,[0,1,4,12,13],eH),(13,[0,1,4,12,13],eH),(15,[0,1,4,12,13],eH)],stay:=[45,63,118,136] }),
 (297,{ loops:=[(1,[0,2,3,8],[10000])],stay:=[35,51] }),
 (298,{ stay:=[14] }),
 (299,{ stay:=[16,24,32] }),
 (300,{ stay:=[21] }),
 (303,{ loops:=[(1,[0,2,3,4,10],eH)],stay:=[38,56] }),
 (304,{ stay:=[17] }),
 (305,{ stay:=[19,28,37] }),
 (306,{ stay:=[18] }),
 (307,{ stay:=[21] })]
def H (f:Nat):Hint:=(find hints f).getD {}
def rZ (l:List UInt8):List (List UInt8)->List UInt8
 |[]=>[]
 |[x]=>x
 |x::xs=>x++l++rZ l xs
def strs:List (List AV)->Option (List (List UInt8))
 |[]=>some []
 |[.str s]::l=>(strs l).map (s:: ·)
 |_=>none
def tz:Nat->Nat->Nat
 |0,_=>0
 |k+1,n=>bif Nat.beq (n % 2) 1 then 0 else 1+tz k (n / 2)
def Vk:List (List AV)->Option Nat
 |[]=>some 0
 |[[.int .u64 (.ofNat m)]]=>bif Nat.blt 0 m&&Nat.blt m 18446744073709551616 then some m else none
 |_=>none
def gM:Nat->Nat->Nat
 |0,_=>0
 |k+1,n=>n % 2+gM k (n / 2)
abbrev vY:=List UInt8×Nat
def Il:List (List AV)->Option (List vY)
 |[]=>some []
 |[.str s, .dK 1 ws]::l=>match Vk ws,Il l with
  |some w,some r=>some ((s,w)::r)
  |_,_=>none
 |_=>none
def SB (p q:vY):Bool:=Nat.blt (gM 64 q.2) (gM 64 p.2)||(Nat.beq (gM 64 p.2) (gM 64 q.2)&&Op.bytesLess p.1 q.1)
def G9:List vY->Bool
 |[]=>true
 |x::l=>l.all (λy=>SB x y||SB y x)&&G9 l
def vY.enc (p:vY):List AV:=[.str p.1, .dK 1 (bif Nat.beq p.2 0 then[] else[[.int .u64 (p.2:Int)]])]
def uL:List (List AV)->Option (List (Int×Int))
 |[]=>some []
 |[.int .i64 f, .int .i64 t]::l=>(uL l).map ((f,t):: ·)
 |_=>none
def Qg (p:Int×Int):List AV:=[.int .i64 p.1, .int .i64 p.2]
abbrev zy:=Int×List (Int×Int)
def vP:List (List AV)->Option (List zy)
 |[]=>some []
 |[.int .i64 t, .dK 2 q]::l=>match uL q,vP l with
  |some a,some r=>some ((t,a)::r)
  |_,_=>none
 |_=>none
def WA (p q:Int×Int):Bool:=decide (p.1<q.1)
def zM:List (Int×Int)->Bool
 |[]=>true
 |x::l=>l.all (λy=>WA x y||WA y x)&&zM l
def Gx (p:List Int):List (Int×Int)->List Bool->List Int->List (List Int)->Option (List Bool×List Int×List (List Int))
 |[],q,w,z=>some (q,w,z)
 |(f,t)::l,q,w,z=>match q[t.toNat]? with
  |some b=>if t<0 then none else bif b then Gx p l q w z else Gx p l (q.set t.toNat true) (w++[t]) (z++[p++[f]])
  |none=>none
def bfs (g:List zy):Nat->Nat->List Bool->List Int->List (List Int)->Option (List Int×List (List Int))
 |0,_,_,_,_=>none
 |k+1,i,q,w,B=>match w[i]?,B[i]? with
  |some n,some p=>match g[n.toNat]? with
   |some x=>match Gx p x.2 q w B with
    |some (l,z,D)=>bfs g k (i+1) l z D
    |none=>none
   |none=>none
  |_,_=>some (w,B)
def DL:List (List Int)->List Int->List (List Int)->List (List Int)
 |out,n::l,p::q=>DL (out.set n.toNat p) l q
 |out,_,_=>out
def yA (g:List zy):Option (List (List Int)):=(bfs g (g.length+1) 0 ((List.replicate g.length false).set 0 true) [0] [[]]).map λr=>DL (List.replicate g.length []) r.1 r.2
def P9 (n:Nat):List UInt8:=bif Nat.blt n 10 then[UInt8.ofNat (48+n)] else[UInt8.ofNat (48+n / 10),UInt8.ofNat (48+n % 10)]
def WO:dX:=λf args cF=>match f,args,cF with
 |128,[.pv (.dK 1 xs), .pv (.str q)],[]=>match strs xs with
  |some l=>bif Nat.ble (rZ q l).length 140737488355328&&Nat.ble l.length 140737488355328 then some (.str (rZ q l),[]) else none
  |none=>none
 |186,[.pv (.int .u64 n)],[]=>match n with
  | .ofNat m=>bif Nat.blt m 18446744073709551616 then some (.int .i64 (tz 64 m:Nat),[]) else none
  | .negSucc _=>none
 |180,[.row 10000],[(10000, .row 9 1 xs)]=>match strs xs with
  |some l=>bif Nat.ble l.length 1073741824 then some (.lR [],[(10000, .row 9 1 ((lD Op.bytesLess l).map jv))]) else none
  |none=>none
 |57,[.pv (.dK 1 xs)],[]=>bif Nat.ble (xs.length *8) 140737488355328 then some (.lR [.lR [.self 3, .dK 1 xs]],[]) else none
 |_,_,_=>none
def eX:dX:=λf args cF=>match f,args,cF with
 |130,[.row 10000, .pv (.fn 131 [])],[(10000, .row 112 2 xs)]=>match Il xs with
  |some l=>bif G9 l&&Nat.ble l.length 1073741824 then some (.lR [],[(10000, .row 112 2 ((lD SB l).map vY.enc))]) else none
  |none=>none
 |74,[.pv (.dK 2 xs)],[]=>bif Nat.ble (xs.length *32) 140737488355328 then some (.lR [.lR [.self 52, .dK 2 xs]],[]) else none
 |165,[.pv (.fn 214 [.ref [.dK 2 xs]]), .pv (.fn 167 [])],[]=>match uL xs with
  |some l=>bif zM l&&Nat.ble l.length 1073741824 then some (.lR [.lR [.self 54, .dK 2 ((lD WA l).map Qg)]],[]) else none
  |none=>none
 |83,[.pv (.int .i64 n)],[]=>match n with
  | .ofNat m=>bif Nat.blt m 100 then some (.str (P9 m),[]) else none
  | .negSucc _=>none
 |29,[.pv (.agg [.dK 2 xs])],[]=>match vP xs with
  |some g=>bif Nat.blt 0 g.length&&Nat.ble g.length 1073741824 then(yA g).map λq=>(.dK 1 (q.map λp=>[.dK 1 (p.map λn=>[.int .i64 n])]),[]) else none
  |none=>none
 |f,args,cF=>WO f args cF
noncomputable abbrev Rn:dX:=run P H eX
instance:Hy Node Node.enc:=⟨⟩
instance:Hy FSt FSt.enc:=⟨⟩
instance:Hy aB aB.enc:=⟨⟩
instance:Hy gL gL.enc:=⟨⟩
instance:Hy c8 c8.enc:=⟨⟩
instance:Hy ff ff.enc:=⟨⟩
instance:Hy bY bY.enc:=⟨⟩
instance:Hy bT bT.enc:=⟨⟩
instance:Hy dY dY.enc:=⟨⟩
instance:Hy dc dc.enc:=⟨⟩
instance:Hy dr dr.enc:=⟨⟩
instance:Hy result result.enc:=⟨⟩
instance:Hy (List bY) (gV 2 bY.enc):=⟨⟩
instance:Hy (List dc) (gV 2 dc.enc):=⟨⟩
instance {x:gL}:En x.Code (cg .u64):=⟨⟩
instance {x:dY}:En x.Code (cg .u64):=⟨⟩
instance {A:List Int} {B:List Int} {l q:AV} [w:Rw (AV.dK 1 (List.map (cg .i64) A)) l] [z:Rw (AV.dK 1 (List.map (cg .i64) B)) q]:Rw (ff.enc ⟨A,B⟩) [l,q]:=⟨by rw[<-w.e,<-z.e];rfl⟩
instance {l:Int} {q:Int} {w z:AV} [B:Rw (AV.int .i64 l) w] [D:Rw (AV.int .i64 q) z]:Rw (bY.enc ⟨l,q⟩) [w,z]:=⟨by rw[<-B.e,<-D.e];rfl⟩
instance {l:Int} {q:List bY} {w z:AV} [B:Rw (AV.int .i64 l) w] [D:Rw (AV.dK 2 (List.map bY.enc q)) z]:Rw (Node.enc ⟨l,q⟩) [w,z]:=⟨by rw[<-B.e,<-D.e];rfl⟩
instance:Hy table table.enc:=⟨⟩
theorem eu:Hy Int (cg .u64):=⟨⟩
instance:Y9 (List (List UInt8)) (pL 1 jv):=⟨⟩
instance:Y9 (List Int) (pL 1 (cg .u64)):=⟨⟩
abbrev Lt {l:Type} (f t:Option l):Prop:=∀{r:l},t=some r->f=some r
noncomputable abbrev rn {l:Type} (q:l->AV) (f:Nat) (a:List SV):Option l:=dec (EN q) (Rn f a [])
noncomputable abbrev hd {l:Type} (q:l->AV) (f k:Nat) (e:List (Nat×SV)) (o:List (Nat×Ob)):Option l:=dec (EN q) (pI P nM H eX f k [] e o)
noncomputable abbrev hx {w:Type} (q:w->Out) (f k:Nat) (l:List Nat) (e:List (Nat×SV)) (o:List (Nat×Ob)):Option w:=dec q (pI P nM H eX f k l e o)
abbrev PR (x:dY):Ob:= .box 112 (List.map .pv (dY.enc x))
abbrev bG (x:FSt):Ob:= .box 24 (List.map .pv (FSt.enc x))
abbrev b9 (x:bR):Ob:= .box 34 (List.map .pv (bR.enc x))
abbrev mb (x:Node):Ob:= .box 52 (List.map .pv (Node.enc x))
abbrev zS (x:result):Ob:= .box 74 (List.map .pv (result.enc x))
abbrev lK (x:aB):Ob:= .box 90 (List.map .pv (aB.enc x))
abbrev nH (x:bT):Ob:= .box 93 (List.map .pv (bT.enc x))
abbrev vL (x:List (V3.T×V3.T)):Ob:= .mp 3 3 (dO V3 V3 x).1 (dO V3 V3 x).2
abbrev Ro (x:List (V3.T×V4.T)):Ob:= .mp 3 4 (dO V3 V4 x).1 (dO V3 V4 x).2
abbrev tI (x:List (V9.T×PD.T)):Ob:= .mp 9 110 (dO V9 PD x).1 (dO V9 PD x).2
abbrev iD (x:List (V9.T×V3.T)):Ob:= .mp 9 3 (dO V9 V3 x).1 (dO V9 V3 x).2
abbrev vM (x:List (V9.T×V4.T)):Ob:= .mp 9 4 (dO V9 V4 x).1 (dO V9 V4 x).2
abbrev Y1 (x:Bool):SV:= .pv (.bool x)
abbrev UO (x:bY):SV:= .pv (.agg (bY.enc x))
abbrev RF (x:dY):SV:= .pv (.agg (dY.enc x))
abbrev fT (x:FSt):SV:= .pv (.agg (FSt.enc x))
abbrev Ah (x:bT):SV:= .pv (.agg (bT.enc x))
abbrev de (x:bR):SV:= .pv (.agg (bR.enc x))
abbrev G6 (x:Node):SV:= .pv (.agg (Node.enc x))
abbrev Ga (x:aB):SV:= .pv (.agg (aB.enc x))
abbrev ac5 (x:gL):SV:= .pv (.agg (gL.enc x))
abbrev aC (x:Int):SV:= .pv (.int .i64 x)
abbrev WM (x:Int):SV:= .pv (.int .u8 x)
abbrev jg (x:List (FSt)):SV:= .pv (.dK 1 (List.map FSt.enc x))
abbrev fh (x:List (Int)):SV:= .pv (.dK 1 (List.map (cg .i64) x))
abbrev A9 (x:List (List (Int))):SV:= .pv (.dK 1 (List.map (gV 1 (cg .i64)) x))
abbrev ux (x:List (List (Int))):SV:= .pv (.dK 1 (List.map (gV 1 (cg .u64)) x))
abbrev DW (x:List (List (dc))):SV:= .pv (.dK 1 (List.map (gV 2 dc.enc) x))
abbrev gQ (x:List (Int)):SV:= .pv (.dK 1 (List.map (cg .u64) x))
abbrev dP (x:List (List UInt8)):SV:= .pv (.dK 1 (List.map jv x))
abbrev Jg (x:List (dc)):SV:= .pv (.dK 2 (List.map dc.enc x))
abbrev fk (x:List (bY)):SV:= .pv (.dK 2 (List.map bY.enc x))
abbrev c7 (x:List (dY)):SV:= .pv (.dK 2 (List.map dY.enc x))
abbrev iW (x:List (bT)):SV:= .pv (.dK 2 (List.map bT.enc x))
abbrev gY (x:List (c8)):SV:= .pv (.dK 2 (List.map c8.enc x))
abbrev di (x:List (Node)):SV:= .pv (.dK 2 (List.map Node.enc x))
abbrev Gb (x:List (ff)):SV:= .pv (.dK 2 (List.map ff.enc x))
abbrev aP (x:List (aB)):SV:= .pv (.dK 3 (List.map aB.enc x))
abbrev ji (x:List (gL)):SV:= .pv (.dK 4 (List.map gL.enc x))
abbrev Cn (x:List UInt8):SV:= .pv (.str x)
abbrev fF (n:Nat):Nat×SV:=(n, .ptr n 0)
abbrev vS (n:Nat):Nat×SV:=(n, .row n)
abbrev Au (x:List (List (Int))):Ob:= .row 110 1 (List.map (gV 1 (cg .u64)) x)
abbrev KW (x:List (dY)):Ob:= .row 112 2 (List.map dY.enc x)
abbrev eF (x:List (List (dc))):Ob:= .row 114 1 (List.map (gV 2 dc.enc) x)
abbrev qa (x:List (gL)):Ob:= .row 116 4 (List.map gL.enc x)
abbrev Av (x:List (dc)):Ob:= .row 128 2 (List.map dc.enc x)
abbrev jR (x:List (dr)):Ob:= .row 137 2 (List.map dr.enc x)
abbrev jS (x:List (c8)):Ob:= .row 155 2 (List.map c8.enc x)
abbrev xq (x:List (Int)):Ob:= .row 164 1 (List.map (cg .u64) x)
abbrev Bb (x:List (FSt)):Ob:= .row 24 1 (List.map FSt.enc x)
abbrev cK (x:List (Int)):Ob:= .row 3 1 (List.map (cg .i64) x)
abbrev Gi (x:List (Bool)):Ob:= .row 4 1 (List.map qF x)
abbrev ni (x:List (List (bY))):Ob:= .row 50 1 (List.map (gV 2 bY.enc) x)
abbrev fe (x:List (Node)):Ob:= .row 52 2 (List.map Node.enc x)
abbrev iy (x:List (bY)):Ob:= .row 54 2 (List.map bY.enc x)
abbrev JB (x:List (List (Int))):Ob:= .row 60 1 (List.map (gV 1 (cg .i64)) x)
abbrev rJ (x:List (ff)):Ob:= .row 65 2 (List.map ff.enc x)
abbrev GK (x:List (aB)):Ob:= .row 90 3 (List.map aB.enc x)
abbrev kT (x:List (bT)):Ob:= .row 93 2 (List.map bT.enc x)
abbrev dQ (x:List (List UInt8)):Ob:= .row 9 1 (List.map jv x)
abbrev tl0:=λl x1 x2 x3 q w=>([(10000,(.box 171 [(aP l),(c7 x1),(.row 10001),(.row 20002),(.row 20003),(.row 20004)])),(10001,(iD x2)),(20002,(dQ x3)),(20003,(cK q)),(20004,(eF w))]:List (Nat×Ob))
abbrev YN:=λl x1 x2 x3 q=>([(10000,(.box 98 [(ji l),(gY x1),(.row 20001),(.row 20002),(.row 20003)])),(20001,(cK x2)),(20002,(cK x3)),(20003,(ni q))]:List (Nat×Ob))
abbrev Sl:=λl x1 x2 x3 q w=>([(10002,(.box 171 [(aP l),(c7 x1),(.row 10003),(.row 10004),(.row 10005),(.row 10006)])),(10003,(iD x2)),(10004,(dQ x3)),(10005,(cK q)),(10006,(eF w))]:List (Nat×Ob))
abbrev tl3:=λl x1 x2 x3 q w=>([(10000,(.box 171 [(aP l),(c7 x1),(.row 10001),(.row 10002),(.row 10003),(.row 10004)])),(10001,(iD x2)),(10002,(dQ x3)),(10003,(cK q)),(10004,(eF w))]:List (Nat×Ob))
abbrev tl4:=λl x1 x2 x3=>([(10000,(.box 123 [(ji l),(gY x1),(.row 20001),(.row 20002)])),(20001,(cK x2)),(20002,(cK x3))]:List (Nat×Ob))
abbrev tl5:=λl x1 x2 x3 q w z=>([(10000,(.box 95 [(.ptr 10004 0)])),(10001,(.box 60 [(.row 20005)])),(10002,(.box 24 [(.row 20006)])),(10003,(.box 139 [(.cl 91 [.p 10000, .p 10001, .p 10002, .p 10003])])),(10004,(.box 98 [(ji l),(gY x1),(.row 20007),(.row 20008),(.row 20009)])),(20005,(cK x2)),(20006,(fe x3)),(20007,(cK q)),(20008,(cK w)),(20009,(ni z))]:List (Nat×Ob))
abbrev tl6:=λl x1 x2 x3 q w=>([(10000,(.box 95 [(.ptr 10002 0)])),(10001,(.box 138 [(.row 20003)])),(10002,(.box 98 [(ji l),(gY x1),(.row 20004),(.row 20005),(.row 20006)])),(20003,(jR x2)),(20004,(cK x3)),(20005,(cK q)),(20006,(ni w))]:List (Nat×Ob))
abbrev tl7:=λl x1 x2=>([(3,(bG l)),(4,(bG x1)),(5,(.box 24 [(.row 5080)])),(5080,(fe x2))]:List (Nat×Ob))
abbrev tl8:=λl x1 x2=>([(8,(bG l)),(9,(.box 24 [(.row 5144)])),(5144,(.rn 52 2 1 54 2 (List.map (jD Node.enc 1) x1) (oV bY.enc x2)))]:List (Nat×Ob))
abbrev tl10:=λl x1 x2 x3 q w z B D=>([(2,(b9 l)),(3,(bG x1)),(4,(bG x2)),(14,(.box 123 [(ji x3),(gY q),(.row 5210),(.row 5211)])),(5208,(qa w)),(5209,(jS z)),(5210,(cK B)),(5211,(cK D))]:List (Nat×Ob))
abbrev tl11:=λl x1 x2 x3=>([(2,(b9 l)),(3,(bG x1)),(4,(bG x2)),(6,(cK x3))]:List (Nat×Ob))
def jb {T:Type} {E:T->Out} [gJ E] {raw:Option Out} {t:Option T} [i:Im E t raw] {f:Nat} {args:List SV} {cF:List (Nat×Ob)} (l:ZB P nM H eX f args cF=raw:=by kernel_rfl) (q:eX f args cF=none:=by rfl):Lt (dec E (run P H eX f args cF)) t:=
 λw=>nU w i.p l λh=>mw (C:=nM) q h
def jh {T:Type} {E:T->Out} [gJ E] {raw:Option Out} {t:Option T} [i:Im E t raw] {f key:Nat} {names:List Nat} {l:List (Nat×SV)} {q:List (Nat×Ob)} (w:UX P nM H eX f key names l q=raw:=by kernel_rfl):Lt (dec E (pI P nM H eX f key names l q)) t:=
 λz=>nU z i.p w λh=>kC h
