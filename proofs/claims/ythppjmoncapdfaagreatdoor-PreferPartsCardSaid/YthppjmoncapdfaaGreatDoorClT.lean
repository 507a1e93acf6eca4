/- The types and codecs of the program, by program (decomp4.py). -/
import Derived.Test.YthppjmoncapdfaaGreatDoorProg
import Derived.Test.YthppjmoncapdfaaGreatDoorAmI
import Derived.KernelRfl
set_option linter.all false
set_option maxRecDepth 100000
namespace Go.Proofs.YthppjmoncapdfaaGreatDoor.cl
open Go Go.AM
noncomputable abbrev P:Program:=Tryz.prog
theorem Ks {l q:Type} {f:l->q} (h:∀a b,f a=f b->a=b:=by
 intro a b h
 (iterate 6 (try injections))<;>first
 |assumption
 |exact map_inj e7.inj _ _ ‹_›
 |(cases a;cases b;congr<;>first|assumption|exact map_inj e7.inj _ _ ‹_› |exact tN ‹_› ‹_›)):e7 f:=⟨h⟩
theorem mkK {K:n9} [DecidableEq K.T] (h:∀a b,rz (K.enc a) (K.enc b)=some (decide (a=b)):=by
 intro a b;simp only[rz,js]
 first|rfl|(congr 1;first|rfl|(rw[Bool.eq_iff_iff];simp))):AA K:=⟨λa b=>⟨inferInstance,h a b⟩⟩
def strOf:AV->List UInt8
 | .str s=>s
 |_=>[]
def isStr:AV->Bool
 | .str _=>true
 |_=>false
def vp:List AV->List UInt8
 |[a]=>strOf a
 |_=>[]
def z6:List AV->Bool
 |[a]=>isStr a
 |_=>false
def Jl (xs:List (List AV)) (l:List AV):Bool:=xs.all z6&&l.all isStr&&Nat.ble (xs.length+l.length) 1073741824
def Rm (xs:List (List AV)) (l:List AV):List (List AV):=(jB Op.bytesLess (xs.map vp++l.map strOf)).map iP
def Hj (l:St):Bool:=match l.env 0,l.env 3,l.ob 10000 with
 |some (.ptr 10000 0),some (.row 15),some (.box 171 [.pv _, .pv _, .row 10001, .row 20002, .row 20003, .row 20004])=>match l.ob 15,l.ob 20002,l.ob 10001,l.ob 20003,l.ob 20004 with
  |some (.mp 9 4 q _),some (.row 9 1 xs),some (.mp 9 3 _ _),some (.row 3 1 _),some (.row 114 1 _)=>Jl xs q
  |_,_,_,_,_=>false
 |_,_,_=>false
def Hi (l:St):Nat×St:=match l.ob 15,l.ob 20002,l.ob 10000,l.ob 10001,l.ob 20003,l.ob 20004 with
 |some (.mp _ _ q _),some (.row _ _ xs),some w,some z,some B,some D=>(1,{ env:=find [(2, .pv (.int .i64 0))],ob:=find [(10000,w),(10001,z),(20002, .row 9 1 (Rm xs q)),(20003,B),(20004,D)] })
 |_,_,_,_,_,_=>(1,l)
def N3 (V:n9) {X:List (List UInt8)} {Y:List (List UInt8×V.T)} (h:X.length+Y.length<=1073741824):Jl (X.map iP) (cw ⟨List UInt8,AV.str⟩ V Y).1=true:=by
 unfold Jl;simp only[aF,cH,aA];refine⟨⟨?_,?_⟩,?_⟩
 .rintro _ ⟨x,_,rfl⟩;rfl
 .intro a l;simp only[cw,aA] at l;obtain⟨p,_,rfl⟩:=l;rfl
 .rw[Nat.ble_eq];simpa[cw] using h
def N5 {V:n9} (X:List (List UInt8)) (Y:List (List UInt8×V.T)):Rm (X.map iP) (cw ⟨List UInt8,AV.str⟩ V Y).1=(jB Op.bytesLess (X++Y.map Prod.fst)).map iP:=by
 unfold Rm;have l:(X.map iP).map vp=X:=by rw[dw];exact(fQ (λx _=>rfl)).trans (j0 X)
 have q:(cw ⟨List UInt8,AV.str⟩ V Y).1.map strOf=Y.map Prod.fst:=by simp only[cw,dw];exact fQ (λx _=>rfl)
 rw[l,q]
abbrev V3:n9:=⟨Int,AV.int .i64⟩
instance:e7 V3.enc:=Ks
instance:AA V3:=mkK
abbrev V4:n9:=⟨Bool,AV.bool⟩
instance:e7 V4.enc:=Ks
instance:AA V4:=mkK
abbrev V9:n9:=⟨List UInt8,AV.str⟩
instance:e7 V9.enc:=Ks
instance:AA V9:=mkK
structure bD where
 aV:Int
 To:Int
 deriving Inhabited
def bD.enc (x:bD):List AV:=[.int .i64 x.aV, .int .i64 x.To]
instance:e7 bD.enc:=Ks
structure Node where
 ef:Int
 cG:List bD
 deriving Inhabited
def Node.enc (x:Node):List AV:=[.int .i64 x.ef, .c4 2 (List.map bD.enc x.cG)]
instance:e7 Node.enc:=Ks
structure FSt where
 au:List Node
 deriving Inhabited
def FSt.enc (x:FSt):List AV:=[.c4 2 (List.map Node.enc x.au)]
instance:e7 FSt.enc:=Ks
structure bR where
 aV:List UInt8
 Value:List UInt8
 deriving Inhabited
def bR.enc (x:bR):List AV:=[.str x.aV, .str x.Value]
instance:e7 bR.enc:=Ks
structure cZ where
 Name:List UInt8
 Jc:List (List UInt8)
 fO:List bR
 deriving Inhabited
def cZ.enc (x:cZ):List AV:=[.str x.Name, .c4 1 (List.map iP x.Jc), .c4 2 (List.map bR.enc x.fO)]
instance:e7 cZ.enc:=Ks
structure dB where
 aV:Int
 Value:Int
 deriving Inhabited
def dB.enc (x:dB):List AV:=[.int .i64 x.aV, .int .i64 x.Value]
instance:e7 dB.enc:=Ks
structure gA where
 Name:List UInt8
 Code:List Int
 Jc:List Int
 fO:List dB
 deriving Inhabited
def gA.enc (x:gA):List AV:=[.str x.Name, .c4 1 (List.map (bU .u64) x.Code), .c4 1 (List.map (bU .i64) x.Jc), .c4 2 (List.map dB.enc x.fO)]
instance:e7 gA.enc:=Ks
structure dg where
 Name:List UInt8
 Intro:Int
 deriving Inhabited
def dg.enc (x:dg):List AV:=[.str x.Name, .int .i64 x.Intro]
instance:e7 dg.enc:=Ks
structure dr where
 Types:List gA
 fO:List dg
 deriving Inhabited
def dr.enc (x:dr):List AV:=[.c4 4 (List.map gA.enc x.Types), .c4 2 (List.map dg.enc x.fO)]
instance:e7 dr.enc:=Ks
structure dM where
 A:List Int
 B:List Int
 deriving Inhabited
def dM.enc (x:dM):List AV:=[.c4 1 (List.map (bU .i64) x.A), .c4 1 (List.map (bU .i64) x.B)]
instance:e7 dM.enc:=Ks
structure result where
 h:dr
 f:FSt
 deriving Inhabited
def result.enc (x:result):List AV:=[.c4 4 (List.map gA.enc x.h.Types), .c4 2 (List.map dg.enc x.h.fO), .c4 2 (List.map Node.enc x.f.au)]
def result.inj:∀(a b:result),result.enc a=result.enc b->a=b:=by intro a b h;obtain⟨L,K⟩:=a;obtain⟨w,q⟩:=L;obtain⟨l⟩:=K;obtain⟨O,N⟩:=b;obtain⟨D,B⟩:=O;obtain⟨z⟩:=N;simp only[result.enc,cU,AV.int.injEq,AV.str.injEq,AV.bool.injEq,AV.c4.injEq,AV.mp.injEq,fD,dL] at h;obtain⟨F,G,I⟩:=h;replace F:=map_inj e7.inj _ _ F;replace G:=map_inj e7.inj _ _ G;replace I:=map_inj e7.inj _ _ I;change w=D at F;change q=B at G;change l=z at I;subst F G I;rfl
instance:e7 result.enc:=⟨result.inj⟩
structure gz where
 Name:List UInt8
 Code:List Int
 deriving Inhabited
def gz.enc (x:gz):List AV:=[.str x.Name, .c4 1 (List.map (bU .u64) x.Code)]
instance:e7 gz.enc:=Ks
structure di where
 a0:Int
 a1:Int
 deriving Inhabited
def di.enc (x:di):List AV:=[.int .i64 x.a0, .int .i64 x.a1]
instance:e7 di.enc:=Ks
structure table where
 d:List cZ
 codes:List gz
 number:List ((List UInt8)×Int)
 OB:List (List UInt8)
 intro:List Int
 values:List (List dB)
 deriving Inhabited
def table.enc (x:table):List AV:=[.c4 3 (List.map cZ.enc x.d), .c4 2 (List.map gz.enc x.codes), .mp (cw V9 V3 x.number).1 (cw V9 V3 x.number).2, .c4 1 (List.map iP x.OB), .c4 1 (List.map (bU .i64) x.intro), .c4 1 (List.map (gI 2 dB.enc) x.values)]
def table.inj:∀(a b:table),table.enc a=table.enc b->a=b:=by intro a b h;obtain⟨U,B,l,D,F,q⟩:=a;obtain⟨bd,G,w,I,K,z⟩:=b;simp only[table.enc,cU,AV.int.injEq,AV.str.injEq,AV.bool.injEq,AV.c4.injEq,AV.mp.injEq,fD,dL] at h;obtain⟨N,O,L,Q,R,S⟩:=h;replace N:=map_inj e7.inj _ _ N;replace O:=map_inj e7.inj _ _ O;replace L:=tN (K:=V9) (V:=V3) L.1 L.2;replace Q:=map_inj e7.inj _ _ Q;replace R:=map_inj e7.inj _ _ R;replace S:=map_inj e7.inj _ _ S;change U=bd at N;change B=G at O;change l=w at L;change D=I at Q;change F=K at R;change q=z at S;subst N O L Q R S;rfl
instance:e7 table.enc:=⟨table.inj⟩
abbrev C52:zH:=⟨Node,Node.enc⟩
abbrev C24:zH:=⟨FSt,FSt.enc⟩
abbrev C90:zH:=⟨cZ,cZ.enc⟩
abbrev C116:zH:=⟨gA,gA.enc⟩
abbrev C155:zH:=⟨dg,dg.enc⟩
abbrev C65:zH:=⟨dM,dM.enc⟩
abbrev C54:zH:=⟨bD,bD.enc⟩
abbrev C60:zH:=⟨List (Int),(gI 1 (bU .i64))⟩
abbrev C3:zH:=⟨Int,(bU .i64)⟩
abbrev C9:zH:=⟨List UInt8,iP⟩
abbrev C93:zH:=⟨bR,bR.enc⟩
abbrev C50:zH:=⟨List (bD),(gI 2 bD.enc)⟩
abbrev C4:zH:=⟨Bool,mL⟩
abbrev C114:zH:=⟨List (dB),(gI 2 dB.enc)⟩
abbrev C112:zH:=⟨gz,gz.enc⟩
abbrev C164:zH:=⟨Int,(bU .u64)⟩
abbrev C128:zH:=⟨dB,dB.enc⟩
abbrev C137:zH:=⟨di,di.enc⟩
abbrev C110:zH:=⟨List (Int),(gI 1 (bU .u64))⟩
abbrev C5:zH:=⟨Int,(bU .u8)⟩
abbrev C74:zH:=⟨result,result.enc⟩
abbrev V87:n9:=⟨List (List UInt8),pL 1 iP⟩
abbrev Gw:n9:=⟨List Int,pL 1 (bU .u64)⟩
abbrev Q0:=AV.bool
abbrev Q1:=pL 1 FSt.enc
abbrev Q2:=pA dr.enc
abbrev Q3:=pA FSt.enc
abbrev Q4:=pL 2 dM.enc
abbrev Q5:=AV.int .i64
abbrev Q6:=pL 1 (gI 1 (bU .i64))
abbrev Q7:=pP (pA dr.enc) (AV.int .i64)
abbrev Q8:=pL 3 cZ.enc
abbrev Q9:=pP (pA FSt.enc) (AV.bool)
abbrev Q10:=pP (pA FSt.enc) (AV.int .i64)
abbrev Q11:=pP (pL 1 (bU .i64)) (AV.bool)
abbrev Q12:=pP (pL 1 (gI 2 dB.enc)) (AV.int .i64)
abbrev Q13:=pP (pL 2 gz.enc) (AV.int .i64)
abbrev Q14:=pA cZ.enc
abbrev Q15:=pL 1 (bU .i64)
abbrev Q16:=pL 1 iP
abbrev Q17:=pP (pL 2 dg.enc) (AV.int .i64)
abbrev Q18:=pU
abbrev Q19:=pP (AV.int .i64) (AV.bool)
abbrev Q20:=AV.str
abbrev Q21:=pL 1 (bU .u64)
abbrev Q22:=pL 1 (gI 1 (bU .u64))
abbrev Q23:=pL 2 Node.enc
abbrev Q24:=pW 3 1 (bU .i64)
abbrev Q25:=pP (AV.str) (AV.bool)
abbrev Q26:=pP (pL 1 (bU .u64)) (AV.bool)
abbrev Q27:=pW 52 2 Node.enc
abbrev Q28:=pW 54 2 bD.enc
abbrev Q29:=pP (JK table.enc) (AV.int .i64)
abbrev Q30:=pP (pL 1 iP) (pL 1 (gI 1 (bU .u64)))
abbrev Q31:=pP (pL 1 (gI 1 (bU .u64))) (AV.bool)
abbrev Q32:=pP (pL 1 (bU .u64)) (AV.int .i64)
abbrev Q33:=pF 214 bD.enc
abbrev Q34:=AV.int .u64
abbrev Q35:=pM V9.enc V87.enc
abbrev Q36:=pM V9.enc Gw.enc
abbrev Q37:=AV.self
def elems:List (Nat×zH):=[(52,C52),(24,C24),(90,C90),(116,C116),(155,C155),(65,C65),(54,C54),(60,C60),(3,C3),(9,C9),(93,C93),(50,C50),(4,C4),(114,C114),(112,C112),(164,C164),(128,C128),(137,C137),(110,C110),(5,C5),(74,C74)]
def vals:List (Nat×n9):=[(3,V3),(4,V4),(9,V9),(87,V87),(110,Gw)]
def Qw:List (Nat×n9):=[(3,⟨_,Q0⟩),(4,⟨_,Q0⟩),(5,⟨_,Q0⟩),(6,⟨_,Q0⟩),(7,⟨_,Q0⟩),(8,⟨_,Q0⟩),(9,⟨_,Q0⟩),(10,⟨_,Q0⟩),(11,⟨_,Q0⟩),(12,⟨_,Q1⟩),(13,⟨_,Q1⟩),(14,⟨_,Q2⟩),(15,⟨_,Q0⟩),(16,⟨_,Q0⟩),(17,⟨_,Q3⟩),(18,⟨_,Q3⟩),(19,⟨_,Q9⟩),(20,⟨_,Q0⟩),(21,⟨_,Q0⟩),(22,⟨_,Q4⟩),(23,⟨_,Q9⟩),(24,⟨_,Q5⟩),(25,⟨_,Q5⟩),(26,⟨_,Q0⟩),(27,⟨_,Q10⟩),(28,⟨_,Q3⟩),(29,⟨_,Q6⟩),(30,⟨_,Q3⟩),(31,⟨_,Q3⟩),(32,⟨_,Q2⟩),(33,⟨_,Q5⟩),(34,⟨_,Q4⟩),(35,⟨_,Q9⟩),(36,⟨_,Q6⟩),(37,⟨_,Q3⟩),(38,⟨_,Q3⟩),(39,⟨_,Q7⟩),(40,⟨_,Q8⟩),(41,⟨_,Q5⟩),(42,⟨_,Q5⟩),(43,⟨_,Q0⟩),(44,⟨_,Q9⟩),(45,⟨_,Q9⟩),(46,⟨_,Q9⟩),(47,⟨_,Q11⟩),(48,⟨_,Q0⟩),(49,⟨_,Q5⟩),(50,⟨_,Q19⟩),(51,⟨_,Q0⟩),(52,⟨_,Q5⟩),(53,⟨_,Q3⟩),(55,⟨_,Q20⟩),(56,⟨_,Q7⟩),(57,⟨_,Q24⟩),(58,⟨_,Q0⟩),(59,⟨_,Q18⟩),(60,⟨_,Q0⟩),(61,⟨_,Q3⟩),(62,⟨_,Q5⟩),(63,⟨_,Q12⟩),(64,⟨_,Q13⟩),(65,⟨_,Q15⟩),(66,⟨_,Q17⟩),(67,⟨_,Q14⟩),(68,⟨_,Q19⟩),(69,⟨_,Q0⟩),(70,⟨_,Q15⟩),(71,⟨_,Q9⟩),(72,⟨_,Q9⟩),(73,⟨_,Q0⟩),(74,⟨_,Q27⟩),(75,⟨_,Q5⟩),(76,⟨_,Q10⟩),(77,⟨_,Q0⟩),(78,⟨_,Q0⟩),(79,⟨_,Q5⟩),(80,⟨_,Q18⟩),(81,⟨_,Q28⟩),(83,⟨_,Q20⟩),(84,⟨_,Q17⟩),(85,⟨_,Q12⟩),(86,⟨_,Q13⟩),(87,⟨_,Q15⟩),(88,⟨_,Q0⟩),(89,⟨_,Q19⟩),(90,⟨_,Q5⟩),(91,⟨_,Q5⟩),(92,⟨_,Q5⟩),(93,⟨_,Q16⟩),(94,⟨_,Q26⟩),(95,⟨_,Q5⟩),(96,⟨_,Q5⟩),(97,⟨_,Q16⟩),(98,⟨_,Q21⟩),(99,⟨_,Q22⟩),(100,⟨_,Q20⟩),(101,⟨_,Q0⟩),(102,⟨_,Q0⟩),(103,⟨_,Q25⟩),(104,⟨_,Q5⟩),(105,⟨_,Q0⟩),(106,⟨_,Q23⟩),(107,⟨_,Q15⟩),(108,⟨_,Q15⟩),(109,⟨_,Q24⟩),(110,⟨_,Q11⟩),(111,⟨_,Q3⟩),(112,⟨_,Q0⟩),(113,⟨_,Q0⟩),(114,⟨_,Q0⟩),(115,⟨_,Q5⟩),(116,⟨_,Q3⟩),(117,⟨_,Q5⟩),(118,⟨_,Q34⟩),(120,⟨_,Q29⟩),(121,⟨_,Q5⟩),(122,⟨_,Q30⟩),(123,⟨_,Q31⟩),(124,⟨_,Q5⟩),(125,⟨_,Q0⟩),(126,⟨_,Q0⟩),(127,⟨_,Q15⟩),(128,⟨_,Q20⟩),(129,⟨_,Q16⟩),(130,⟨_,Q18⟩),(132,⟨_,Q5⟩),(133,⟨_,Q5⟩),(136,⟨_,Q0⟩),(137,⟨_,Q0⟩),(138,⟨_,Q0⟩),(139,⟨_,Q21⟩),(140,⟨_,Q5⟩),(141,⟨_,Q0⟩),(142,⟨_,Q5⟩),(143,⟨_,Q16⟩),(144,⟨_,Q25⟩),(145,⟨_,Q21⟩),(146,⟨_,Q21⟩),(147,⟨_,Q0⟩),(148,⟨_,Q5⟩),(149,⟨_,Q5⟩),(150,⟨_,Q5⟩),(151,⟨_,Q16⟩),(152,⟨_,Q16⟩),(153,⟨_,Q0⟩),(154,⟨_,Q32⟩),(155,⟨_,Q0⟩),(156,⟨_,Q0⟩),(157,⟨_,Q0⟩),(158,⟨_,Q16⟩),(159,⟨_,Q5⟩),(160,⟨_,Q21⟩),(161,⟨_,Q19⟩),(162,⟨_,Q19⟩),(163,⟨_,Q19⟩),(164,⟨_,Q18⟩),(165,⟨_,Q28⟩),(166,⟨_,Q33⟩),(168,⟨_,Q5⟩),(169,⟨_,Q5⟩),(171,⟨_,Q5⟩),(172,⟨_,Q0⟩),(173,⟨_,Q5⟩),(174,⟨_,Q5⟩),(175,⟨_,Q5⟩),(176,⟨_,Q0⟩),(177,⟨_,Q5⟩),(178,⟨_,Q5⟩),(179,⟨_,Q16⟩),(180,⟨_,Q18⟩),(181,⟨_,Q16⟩),(182,⟨_,Q19⟩),(183,⟨_,Q32⟩),(184,⟨_,Q18⟩),(185,⟨_,Q20⟩),(186,⟨_,Q5⟩),(190,⟨_,Q16⟩),(191,⟨_,Q35⟩),(192,⟨_,Q16⟩),(193,⟨_,Q0⟩),(194,⟨_,Q0⟩),(195,⟨_,Q0⟩),(198,⟨_,Q0⟩),(200,⟨_,Q0⟩),(201,⟨_,Q5⟩),(202,⟨_,Q21⟩),(203,⟨_,Q0⟩),(204,⟨_,Q34⟩),(205,⟨_,Q0⟩),(206,⟨_,Q5⟩),(207,⟨_,Q0⟩),(208,⟨_,Q16⟩),(209,⟨_,Q16⟩),(210,⟨_,Q15⟩),(211,⟨_,Q19⟩),(215,⟨_,Q5⟩),(216,⟨_,Q5⟩),(221,⟨_,Q0⟩),(222,⟨_,Q0⟩),(223,⟨_,Q0⟩),(224,⟨_,Q15⟩),(225,⟨_,Q0⟩),(226,⟨_,Q0⟩),(227,⟨_,Q36⟩),(228,⟨_,Q5⟩),(229,⟨_,Q0⟩),(230,⟨_,Q0⟩),(231,⟨_,Q0⟩),(232,⟨_,Q20⟩),(233,⟨_,Q37⟩),(234,⟨_,Q0⟩),(236,⟨_,Q0⟩),(237,⟨_,Q0⟩),(240,⟨_,Q37⟩),(241,⟨_,Q5⟩),(242,⟨_,Q5⟩),(253,⟨_,Q0⟩),(260,⟨_,Q0⟩),(261,⟨_,Q0⟩),(262,⟨_,Q5⟩),(263,⟨_,Q0⟩),(264,⟨_,Q18⟩),(265,⟨_,Q21⟩),(266,⟨_,Q5⟩),(267,⟨_,Q0⟩),(268,⟨_,Q5⟩),(269,⟨_,Q0⟩),(285,⟨_,Q0⟩),(286,⟨_,Q0⟩),(296,⟨_,Q0⟩),(301,⟨_,Q0⟩),(302,⟨_,Q0⟩)]
def lH:jF:={ elem:=wB elems,val:=wB vals,res:=wB Qw,ptr:=some ⟨table,table.enc⟩ }
def cR:List Nat:=[10000,10001,10002,10003,10004,10005,10006,10007,10008,20000,20001,20002,20003,20004,20005,20006,20007,20008,20009,20010,20011]
def hints:List (Nat×Hint):=[
 (5,{ loops:=[(8,[2,4,7,8,9],[4,7,8])] }),
 (6,{ loops:=[(8,[2,4,7,8,9,10,11],[4,7,8,9])] }),
 (7,{ loops:=[(8,[3,5,6,7],[3,5])] }),
 (8,{ loops:=[(8,[2,7,8,9],[7,8]),(12,[2,7,8,9,10,11],[7,8])] }),
 (9,{ loops:=[(4,[1,3],[1]),(9,[1,3,4],[1])] }),
 (11,{ loops:=[(4,[0,1,5],[])] }),
 (12,{ loops:=[(3,[1,3,12,13,14],[1,3]),(9,[3,6,36,37,38],[3,6])],rows:=[3] }),
 (13,{ loops:=[(4,[1,3,4,5],[1,3]),(9,[3,6,7],[3])],rows:=[3] }),
 (15,{ loops:=[(4,[2,3,7],[3])] }),
 (17,{ loops:=[(4,[6,7,8,19,20,21],[6,16]),(8,[6,7,8,19,20,21,29,30,31],[6,16])],gP:=[18],bx:=[16] }),
 (18,{ loops:=[(3,[2,3,6,7,8],[3,4,6,7,9,13]),(10,[2,3,6,7,8,11,12],[3,4,6,7,9,13])] }),
 (22,{ loops:=[(4,[1,3,4,5],[1,4]),(8,[1,3,4,5,6,7],[1,4])],rows:=[4,30],jK:=[8] }),
 (23,{ loops:=[(5,[2,4,6,19,20,21],[2,4,6,9])] }),
 (24,{ loops:=[(5,[2,3,5,7],[2,3,5]),(11,[2,3,5,7,8,9],[2,3,5,8])] }),
 (25,{ loops:=[(5,[2,3,19,20,21],[2,3]),(8,[2,3,7,19,20,21,26,27,28],[2,3,7])] }),
 (26,{ loops:=[(4,[1,3],[1])] }),
 (29,{ rows:=[9] }),
 (30,{ loops:=[(3,[0,3,4,5,13,14,15],[3,4,5,5080,5081,5082,5083,5084,5085]),(8,[0,4,5,33,34,35],[3,4,5,5080,5081,5082,5083,5084,5085]),(12,[0,4,5,10,33,34,35,43,44,45],[3,4,5,9,10,5080,5081,5082,5083,5084,5085,5160,5161,5162,5163,5164,5165,5656,5657,5658,5659,5660,5661])],rows:=[5,10,41],kI:=[(16,[5160,5161,5162,5163,5164,5165,5656,5657,5658,5659,5660,5661]),(18,[5080,5081,5082,5083,5084,5085])] }),
 (32,{ loops:=[(3,[2,3,8,9],[2,3,5,5048,5049,5050,5051,5052,5053,5112,5113,5114,5115,5116,5117])],rows:=[3,7],kI:=[(7,[5048,5049,5050,5051,5052,5053,5112,5113,5114,5115,5116,5117])] }),
 (33,{ loops:=[(3,[3,9,10,11],[1]),(6,[3,9,10,11,16,17,18],[1,5])] }),
 (34,{ loops:=[(4,[3,4,13,14,15],[1,4]),(7,[3,4,5,13,14,15,21,22,23],[1,4,6])],rows:=[4],jK:=[9],stay:=[31,42],owns:=[31] }),
 (35,{ rows:=[22] }),
 (36,{ loops:=[(6,[1,3,4,5,6],[1,12,16,19]),(10,[1,3,4,5,6,7,8],[1,12,16,19])],rows:=[12,16,19,63],use:=[78] }),
 (37,{ loops:=[(3,[0,3,4,5,6],[3,4,5,5080,5081,5082,5083,5084,5085]),(7,[0,3,4,5,7],[3,4,5,5080,5081,5082,5083,5084,5085]),(12,[0,3,4,5,7,8,9,10],[3,4,5,8,5080,5081,5082,5083,5084,5085,5128,5129,5130,5131,5132,5133,5704,5705,5706,5707,5708,5709])],rows:=[5,8,44],kI:=[(15,[5128,5129,5130,5131,5132,5133,5704,5705,5706,5707,5708,5709]),(16,[5080,5081,5082,5083,5084,5085])] }),
 (38,{ loops:=[(4,[0,1,4,5,6],[4,5,10,5080,5081,5082,5083,5084,5085]),(10,[0,1,4,5,7,8],[4,5,10,5080,5081,5082,5083,5084,5085])],rows:=[5,34],kI:=[(19,[5080,5081,5082,5083,5084,5085])],take:=[74,100],UF:=[(14,[1]),(39,[1]),(87,[1])],nest:=[(5064,1,54,2),(5080,1,54,2),(5160,1,54,2)] }),
 (39,{ loops:=[(7,[0,2,4,6,8,9],[2,8,5128,5129,5130,5131,5132,5133])],rows:=[8],jK:=[4,6],kI:=[(12,[5128,5129,5130,5131,5132,5133])] }),
 (41,{ loops:=[(5,[2,3,6],[2,3]),(9,[2,3,6,7,8],[2,3])] }),
 (42,{ loops:=[(4,[5,6,7],[])] }),
 (45,{ rows:=[10] }),
 (46,{ loops:=[(3,[3,4,6,16,17,18],[2,3,4,10,14,68,5160,5161,5162,5163,5164,5165,5208,5209,5210,5211,5212,5213,6104,6105,6106,6107,6108,6109]),(9,[3,4,6,9],[2,3,4,10,14,68,5160,5161,5162,5163,5164,5165,5208,5209,5210,5211,5212,5213,6104,6105,6106,6107,6108,6109]),(15,[4,6,10,72,73],[2,4,10,14,68,5160,5161,5162,5163,5164,5165,5208,5209,5210,5211,5212,5213,6104,6105,6106,6107,6108,6109])],rows:=[10,13,69],kI:=[(19,[68,5160,5161,5162,5163,5164,5165,6104,6105,6106,6107,6108,6109])],stay:=[68],owns:=[68] }),
 (47,{ loops:=[(3,[3,4,5,8,22,23],[3,4,5,20]),(10,[3,5,8,10,33,34,35],[3,4,5,20]),(16,[3,5,8,10,13,33,34,35,60,61,62],[3,4,5,12,20])],rows:=[20] }),
 (48,{ loops:=[(4,[0,1,5],[])] }),
 (49,{ loops:=[(5,[2,3,5,20,21,22],[2,3,5]),(10,[2,3,5,20,21,22,33,34,35],[2,3,5,8])] }),
 (50,{ loops:=[(2,[2,15,16,17],[3])] }),
 (52,{ loops:=[(6,[1,3],[1])] }),
 (53,{ loops:=[(3,[1,2,4,5,6],[2,4,7,14,5112,5113,5114,5115,5116,5117,5208,5209,5210,5211,5212,5213]),(9,[2,4,5,7,8],[2,4,7,14,5112,5113,5114,5115,5116,5117,5208,5209,5210,5211,5212,5213]),(14,[2,4,5,7,8,9,10,11],[2,4,7,9,14,56,5112,5113,5114,5115,5116,5117,5208,5209,5210,5211,5212,5213])],rows:=[7,13],kI:=[(17,[56]),(18,[5112,5113,5114,5115,5116,5117])],owns:=[56] }),
 (56,{ loops:=[(12,[2,6,7,8,40,41,42],[2,8,5128,5129,5130,5131,5132,5133,5624,5625,5626,5627,5628,5629])],rows:=[8,39],jK:=[4,6,7],kI:=[(16,[5128,5129,5130,5131,5132,5133,5624,5625,5626,5627,5628,5629])] }),
 (57,{ rows:=[2,5],stay:=[7],own:=true }),
 (58,{ loops:=[(4,[0,1,12,13],[])],stay:=[7,9,12] }),
 (59,{ loops:=[(2,[0,4,15,16,17],cR),(8,[0,4,7,15,16,17,46,47,48],[6,7]++cR)],rows:=[7],kI:=[(12,[7])] }),
 (60,{ loops:=[(3,[3,7,8],[3,7,15,5112,5113,5114,5115,5116,5117]++cR)],rows:=[7,15],gP:=[16] }),
 (61,{ loops:=[(3,[1,2,4,5,16,17],[2,4,5,7,14,5080,5081,5082,5083,5084,5085,5112,5113,5114,5115,5116,5117]++cR)],rows:=[5,7,14],gP:=[24],kI:=[(11,[5112,5113,5114,5115,5116,5117])] }),
 (62,{ loops:=[(2,[0,1,5],[])] }),
 (63,{ loops:=[(8,[0,5,7,8,9],[8]),(12,[0,5,7,8,9,10,11],[8,10])],rows:=[8,10],jK:=[5,7,12],kI:=[(17,[10])] }),
 (64,{ loops:=[(7,[0,5,6,7],[6]),(15,[0,5,6,8,9,10],[6]),(19,[0,5,6,8,9,10,11,12],[6,11])],rows:=[6,13],jK:=[5,8,9] }),
 (65,{ loops:=[(3,[0,1,5,6],[5]),(8,[0,1,5,6,7,8],[5])],rows:=[5] }),
 (66,{ loops:=[(8,[0,5,7,8,9],[8])],rows:=[8],jK:=[5,7] }),
 (67,{ loops:=[(5,[2,6,7,8],[6,7,14,5112,5113,5114,5115,5116,5117,5160,5161,5162,5163,5164,5165])],rows:=[7,10,14],kI:=[(8,[14,5112,5113,5114,5115,5116,5117,5160,5161,5162,5163,5164,5165])] }),
 (68,{ loops:=[(3,[2,8,9],[])],jK:=[8] }),
 (70,{ loops:=[(3,[1,3,4],[1,10]),(8,[1,3,4,5,6],[1,10])],rows:=[10] }),
 (71,{ owns:=[20],use:=[20] }),
 (72,{ loops:=[(3,[2,3,4,6,7],[2,3,4,6,13,5208,5209,5210,5211,5212,5213]),(7,[2,3,4,6,8],[2,3,4,6,13,5208,5209,5210,5211,5212,5213]),(10,[2,3,4,6,9,10],[2,3,4,6,13,5208,5209,5210,5211,5212,5213]),(14,[2,3,4,6,9,10,11,12],[2,3,4,6,13,5208,5209,5210,5211,5212,5213]),(21,[3,4,6,13,14],[3,4,6,13,5208,5209,5210,5211,5212,5213])],rows:=[6,13,32],jK:=[9],gP:=[55],kI:=[(24,[5208,5209,5210,5211,5212,5213])] }),
 (73,{ loops:=[(2,[0,2,4,18,19,20],[4]++cR),(8,[0,2,44,45,46],[4]++cR)] }),
 (74,{ rows:=[2,5],stay:=[7],own:=true }),
 (75,{ loops:=[(2,[1,8,9,10],[2])] }),
 (76,{ loops:=[(6,[1,2,18,19,20],[1,2])] }),
 (78,{ loops:=[(2,[1,7,8,9],[])] }),
 (79,{ loops:=[(2,[0,1,5],[]),(7,[0,1,5,6],[])] }),
 (80,{ loops:=[(4,[0,4,5],cR)],jK:=[4],owns:=[36] }),
 (81,{ loops:=[(3,[0,3,4],[3,6]),(6,[0,3,4,5],[3,6])],rows:=[2,3,6],Vn:=[2,3,6],own:=true }),
 (82,{ loops:=[(4,[0,1,3,4,5,6],[12,15,16]++cR),(8,[0,1,3,4,5,6,42,43,44],[12,15,16]++cR)],rows:=[12,15,16],stay:=[68],owns:=[68],use:=[72] }),
 (84,{ loops:=[(6,[4,6,20,21,22],[6])],rows:=[6] }),
 (86,{ loops:=[(10,[0,5,6,9,34,35,36],[9]),(18,[0,5,6,9,12,14,34,35,36,53,54,55],[9,12,14])],rows:=[9,14],jK:=[5,6,7],gP:=[77] }),
 (87,{ loops:=[(3,[1,2,5,6,12,13],[2,5,6]),(9,[2,5,6,30,31,32],[2,5,6])],rows:=[5,6],kI:=[(8,[2])] }),
 (88,{ loops:=[(8,[0,2,3,9,10,11],[11]++cR)],rows:=[11],jK:=[9,10],use:=[150] }),
 (89,{ stay:=[29] }),
 (90,{ loops:=[(1,[0,1],cR)] }),
 (91,{ loops:=[(9,[3,4,7,8,49,50,51],[8]++cR)],rows:=[8],use:=[69] }),
 (92,{ loops:=[(11,[0,3,5,7],[]),(17,[0,3,5,10],[]),(20,[0,3,5,10,11],[])],jK:=[3,5,12] }),
 (93,{ loops:=[(3,[0,3,4],[]),(6,[0,3,4,5],[])],jK:=[3] }),
 (94,{ loops:=[(4,[0,1,2,3,10,11,12],[])],jK:=[11] }),
 (95,{ loops:=[(3,[0,5,6],[])],jK:=[5] }),
 (96,{ loops:=[(12,[0,6,7],[])] }),
 (97,{ loops:=[(3,[0,3,4],[])],jK:=[3] }),
 (98,{ loops:=[(4,[1,7,8,9],[8])],rows:=[8],jK:=[7,10] }),
 (99,{ loops:=[(3,[3,4],[7]),(6,[3,4,5],[7])],rows:=[7],jK:=[6] }),
 (100,{ loops:=[(3,[0,1,2,3,9,10],[9]),(12,[9,11,12],[9])],rows:=[9] }),
 (103,{ loops:=[(3,[0,1,6,7],[])],jK:=[6,10] }),
 (104,{ loops:=[(2,[0,1,5],[])] }),
 (106,{ loops:=[(3,[0,1,5,6],[9]),(7,[0,1,5,6,7,8],[7,9,5112,5113,5114,5115,5116,5117,5368,5369,5370,5371,5372,5373])],rows:=[7,9,23],kI:=[(10,[5112,5113,5114,5115,5116,5117,5368,5369,5370,5371,5372,5373])] }),
 (107,{ loops:=[(5,[0,1,5,6,7,8],[7,20,23]),(11,[5,6,7,9],[7,20,23]),(17,[5,6,7,9,10,11,12],[7,20,23]),(23,[5,6,7,9,10,11,13,14],[7,20,23,112])],rows:=[7,23,112],owns:=[20],use:=[158] }),
 (108,{ loops:=[(5,[7,8,9,10],[29])],rows:=[29] }),
 (109,{ loops:=[(3,[0,3,4],[3])],rows:=[2,3],Vn:=[2,3],own:=true }),
 (110,{ loops:=[(3,[1,2,3,8,9],[3,15]),(10,[1,2,8,12],[15])],rows:=[15] }),
 (111,{ loops:=[(3,[0,1,2,3,8,9,10],[8,9,5144,5145,5146,5147,5148,5149]),(7,[0,1,3,8,9,11],[8,9,5144,5145,5146,5147,5148,5149]),(11,[0,1,3,8,9,11,12,13],[8,9,5144,5145,5146,5147,5148,5149])],rows:=[9],kI:=[(17,[5144,5145,5146,5147,5148,5149])],take:=[79],UF:=[(29,[1])],nest:=[(5128,1,54,2),(5144,1,54,2)] }),
 (113,{ loops:=[(2,[0,1,5],[])] }),
 (115,{ loops:=[(5,[1,5,13,14,15],[2,11])] }),
 (116,{ loops:=[(8,[2,4,5,8,22,23,24],[2,4,5,6,8,13,20,5096,5097,5098,5099,5100,5101,5128,5129,5130,5131,5132,5133,5336,5337,5338,5339,5340,5341]),(12,[2,4,5,8,9,10,11,22,23,24,38,39],[2,4,5,6,8,13,20,36,5096,5097,5098,5099,5100,5101,5128,5129,5130,5131,5132,5133,5336,5337,5338,5339,5340,5341])],rows:=[6,8,20,21],gP:=[14],kI:=[(16,[36]),(18,[20,5128,5129,5130,5131,5132,5133,5336,5337,5338,5339,5340,5341])],stay:=[35,36],owns:=[36] }),
 (117,{ stay:=[20] }),
 (120,{ loops:=[(6,[4,6,24,25,26],[21,23,5352,5353,5354,5355,5356,5357])],rows:=[22],jK:=[4],kI:=[(8,[8])],stay:=[38] }),
 (121,{ loops:=[(11,[0,5,20,21,22],[])] }),
 (122,{ loops:=[(3,[0,4,15,16,17],[4]),(10,[0,4,7,32,33,34],[4,31]),(14,[0,4,7,8,10,32,33,34,41,42,43],[4,10,31])],rows:=[4,10,31],gP:=[27] }),
 (123,{ loops:=[(5,[5,6,13,14,15],[4,5,11,5080,5081,5082,5083,5084,5085]),(10,[5,6,9],[4,5,11,5080,5081,5082,5083,5084,5085]),(13,[5,6,9,10],[4,5,11,5080,5081,5082,5083,5084,5085])],rows:=[5],jK:=[8],gP:=[12] }),
 (124,{ loops:=[(2,[1,7,8,9],cR)],jK:=[6] }),
 (127,{ loops:=[(3,[3,6,7,8],[3]),(5,[3,4,5,6,7,8],[3])],rows:=[3] }),
 (128,{ loops:=[(12,[0,1,5,39,40,41],[]),(22,[1,8,63,64,65],[8,5128,5129,5130,5131,5132,5133])],rows:=[8] }),
 (129,{ loops:=[(5,[5,6,7,17,18,19],[7])],rows:=[7],jK:=[5] }),
 (130,{ gP:=[7],stay:=[6,11,13] }),
 (132,{ loops:=[(3,[3,6,7,8],[])] }),
 (134,{ loops:=[(3,[3,6,7,8],[])] }),
 (138,{ stay:=[7] }),
 (139,{ loops:=[(3,[0,1,5,14,15],[12])],rows:=[12] }),
 (140,{ loops:=[(2,[0,1,7,8],cR)],stay:=[7,16] }),
 (142,{ loops:=[(3,[0,3,4],[]),(7,[0,3,4,5,6],[]),(12,[0,3,4,5,6,7],[])],jK:=[3,5] }),
 (143,{ loops:=[(3,[0,1,5,6],[5])],rows:=[5] }),
 (144,{ loops:=[(2,[1,2,6],[2])] }),
 (145,{ loops:=[(3,[0,1,5,6],[5])],rows:=[5] }),
 (146,{ loops:=[(2,[0,3],[])],rows:=[18] }),
 (147,{ loops:=[(4,[0,1,5],[])] }),
 (148,{ loops:=[(4,[0,3],[])] }),
 (149,{ loops:=[(2,[0,3],[])] }),
 (150,{ loops:=[(2,[0,3],[]),(6,[0,3,4,5],[])],jK:=[4] }),
 (151,{ loops:=[(3,[0,3,4],[3]),(7,[0,3,4,5,6],[3])],rows:=[3] }),
 (152,{ loops:=[(5,[0,5,6],[15]),(8,[0,5,6,7],[15]),(14,[5,8,9],[15])],rows:=[15],jK:=[8] }),
 (153,{ loops:=[(2,[0,1,5],[])] }),
 (154,{ loops:=[(3,[0,4,5],[6])],rows:=[6] }),
 (155,{ loops:=[(2,[0,1,5],[])] }),
 (158,{ loops:=[(4,[0,5,6,7],[5]),(9,[0,5,6,7,8,9,10],[5])],rows:=[5],jK:=[6,8] }),
 (160,{ loops:=[(3,[0,1,5,6],[5])],rows:=[5] }),
 (161,{ loops:=[(2,[0,1,6],[])] }),
 (163,{ loops:=[(3,[2,8,9],[])] }),
 (164,{ loops:=[(3,[2,4,25,26,27],[25]++cR)],stay:=[24,25],owns:=[25] }),
 (165,{ rows:=[4],gP:=[8],stay:=[7,10],own:=true }),
 (168,{ loops:=[(2,[0,1,2,11,12,13],cR)],stay:=[12,20,29,35,37] }),
 (169,{ stay:=[27] }),
 (170,{ jK:=[8],gP:=[30] }),
 (171,{ loops:=[(2,[0,1,7,8],cR)],stay:=[7,16] }),
 (173,{ loops:=[(3,[0,3,19,20,21],[15]++cR),(6,[0,3,19,20,21,26,27,28],[5,15]++cR),(14,[0,3,43,44,45],[15]++cR),(17,[0,3,9,43,44,45,50,51,52],[9,15]++cR),(29,[0,82],[82]++cR)],gP:=[65,100],stay:=[66,101],blk:=[(28,Hj,Hi)] }),
 (174,{ loops:=[(2,[1,10,11,12],[1]++cR)],gP:=[20],stay:=[18,21] }),
 (175,{ loops:=[(2,[0,15,16],cR),(7,[0,4,5,15,16,25,26,27],[4]++cR)],rows:=[4],jK:=[8],kI:=[(16,[4])],stay:=[21] }),
 (177,{ loops:=[(3,[3,9,10,11],[8])] }),
 (178,{ loops:=[(3,[3,12,13,14],[]),(6,[3,5,12,13,14,19,20,21],[5])],jK:=[8] }),
 (179,{ loops:=[(5,[3,4,5,18,19,20],[5,16,17]),(11,[3,4,5,7,18,19,20,40,41,42],[5,7,16,17]),(17,[3,4,5,10],[5,10,16,17]),(22,[3,4,5,10,71,72,73],[5,10,16,17])],rows:=[5,10,17,46,48],gP:=[62],kI:=[(16,[17])] }),
 (180,{ gP:=[5],stay:=[4,9,10] }),
 (181,{ loops:=[(3,[1,5,15,16,17],[14]),(9,[1,5,7,15,16,17,34,35,36],[7,14])],rows:=[14,30,40,42],jK:=[8],kI:=[(14,[14])] }),
 (182,{ loops:=[(3,[0,1,6,7,8],[])],stay:=[11,27,47,50] }),
 (183,{ loops:=[(3,[0,4,10,11,12],[]),(11,[7,30,31,32],[29])],rows:=[29] }),
 (185,{ loops:=[(3,[3,11,12,13],[10]),(6,[3,5,6,11,12,13],[10])],rows:=[10] }),
 (190,{ loops:=[(4,[5,6,13,14,15],[6])],rows:=[6],jK:=[9],gP:=[31,33] }),
 (191,{ loops:=[(3,[3,9,10,11],[8])] }),
 (192,{ loops:=[(7,[0,7,8,9],[20,24]),(10,[0,7,8,9,36,37,38],[20,24])],rows:=[24],jK:=[5],gP:=[53] }),
 (194,{ stay:=[7] }),
 (195,{ stay:=[7] }),
 (196,{ loops:=[(2,[0,1,2,3,4,10,11],cR)],gP:=[26,33,40,57,76,98,106,129,140],stay:=[30,37,44,52,61,80,94,103,111,134,146] }),
 (201,{ loops:=[(2,[0,1,7,8],cR)],stay:=[7,16] }),
 (202,{ loops:=[(2,[0,3],[])] }),
 (206,{ loops:=[(2,[0,1,5],[])] }),
 (207,{ loops:=[(2,[1,2,5],[2])] }),
 (208,{ loops:=[(3,[0,1,5,6],[])],jK:=[5] }),
 (209,{ loops:=[(5,[0,5,6],[16]),(9,[0,5,6,7,8],[16]),(15,[5,9,10],[16])],rows:=[16],jK:=[7,9] }),
 (210,{ loops:=[(3,[0,3,4],[3])],rows:=[3] }),
 (211,{ loops:=[(2,[1,2,6],[2])] }),
 (212,{ stay:=[4] }),
 (213,{ gP:=[7],stay:=[6,11,13] }),
 (214,{ loops:=[(1,[0,5,6,7],cR)],stay:=[6,13] }),
 (215,{ loops:=[(2,[0,1,2,11,12,13],cR)],stay:=[12,20,29,35,37] }),
 (219,{ loops:=[(1,[0,1,4],[10000])] }),
 (220,{ loops:=[(11,[0,1,3,4,10,11,12,13,14,15,16],[12,10000]),(18,[0,1,3,4,10,11,12,13,17],[12,10000])] }),
 (222,{ stay:=[7] }),
 (224,{ loops:=[(3,[0,3,5,11,12,13],[3,5]++cR)],rows:=[5],kI:=[(2,[3])],stay:=[20] }),
 (225,{ gP:=[6],stay:=[7] }),
 (227,{ loops:=[(4,[1,2,5,6,16,17,18],[2,5,11]++cR),(8,[1,2,5,6,16,17,18,36,37,38],[2,5,8,11]++cR)],gP:=[12],stay:=[33],keep:=[10001,10002,10003,10004] }),
 (229,{ stay:=[7] }),
 (232,{ loops:=[(5,[0,3,4],[])],stay:=[6,14,23] }),
 (233,{ loops:=[(5,[0,1,5,6],cR)],stay:=[10,18,28] }),
 (235,{ loops:=[(2,[0,1,2,3,8,9],[10000])],gP:=[24,30,36,51,69,88,95,117,127],stay:=[27,33,39,46,54,72,85,92,99,121,132] }),
 (239,{ jK:=[4] }),
 (240,{ loops:=[(4,[0,3],[10000]),(9,[0,3,4,5],[10000])],jK:=[4],stay:=[7,12,31] }),
 (241,{ loops:=[(2,[0,1,7,8],[])],stay:=[7] }),
 (242,{ loops:=[(2,[0,1,7,8],cR)],stay:=[7,16] }),
 (243,{ loops:=[(1,[0,1,2,3,8],cR),(4,[0,1,2,3,8,9],cR)],stay:=[32] }),
 (244,{ loops:=[(4,[0,3,8,9,10,11],cR),(8,[0,3,8,9,12],cR)],gP:=[24,54],stay:=[29,59] }),
 (245,{ loops:=[(5,[0,1,8,9,10,11],[9]++cR)],stay:=[21,38] }),
 (246,{ stay:=[40,44,48,54] }),
 (247,{ loops:=[(2,[0,8,9],cR)] }),
 (248,{ loops:=[(3,[0,1,2,3,9,10],cR),(5,[0,1,2,3,9,10],cR),(14,[0,1,2,3,9,10,11],cR),(20,[0,1,2,3,9,10,12],cR)],stay:=[33,82,122] }),
 (249,{ loops:=[(3,[0,1,4,11,12],cR),(5,[0,1,4,11,12],cR)],stay:=[44,63] }),
 (250,{ loops:=[(3,[0,1,4,12,13],cR),(5,[0,1,4,12,13],cR),(13,[0,1,4,12,13],cR),(15,[0,1,4,12,13],cR)],stay:=[45,63,118,136] }),
 (253,{ loops:=[(4,[0,1,5],[])] }),
 (255,{ loops:=[(2,[0,1,2,3,4,10,11],cR)],gP:=[26,33,40,57,76,98,106,129,140],stay:=[30,37,44,52,61,80,94,103,111,134,146] }),
 (260,{ loops:=[(4,[1,16],[16]++cR)] }),
 (262,{ loops:=[(2,[0,1,7,8],cR)],stay:=[7,16] }),
 (264,{ jK:=[4,5],stay:=[10] }),
 (266,{ loops:=[(2,[1,7,8,9],cR)] }),
 (268,{ loops:=[(2,[0,1,7,8],cR)],stay:=[7,16] }),
 (270,{ loops:=[(1,[0,1,2,6],[10000]),(4,[0,1,2,6,7],[10000])],stay:=[29] }),
 (271,{ loops:=[(4,[0,6,7,8,9],[10000]),(8,[0,6,7,10],[10000])],gP:=[22,51],stay:=[26,55] }),
 (272,{ loops:=[(5,[0,1,6,7,8,9],[7,10000])],stay:=[19,36] }),
 (273,{ stay:=[37,40,43,48] }),
 (274,{ loops:=[(2,[0,6,7],[10000])] }),
 (275,{ loops:=[(3,[0,1,2,7,8],[10000]),(5,[0,1,2,7,8],[10000]),(14,[0,1,2,7,8,9],[10000]),(20,[0,1,2,7,8,10],[10000])],stay:=[30,77,115] }),
 (276,{ loops:=[(3,[0,1,9,10],[10000]),(5,[0,1,9,10],[10000])],stay:=[41,58] }),
 (277,{ loops:=[(3,[0,1,10,11],[10000]),(5,[0,1,10,11],[10000]),(13,[0,1,10,11],[10000]),(15,[0,1,10,11],[10000])],stay:=[42,58,111,127] }),
 (280,{ loops:=[(1,[0,2,3,4,10],cR)],stay:=[38,56] }),
 (281,{ stay:=[5] }),
 (283,{ stay:=[17] }),
 (284,{ stay:=[19,28,37] }),
 (287,{ loops:=[(1,[0,1,2,3,8],cR),(4,[0,1,2,3,8,9],cR)],stay:=[32] }),
 (288,{ loops:=[(4,[0,3,8,9,10,11],cR),(8,[0,3,8,9,12],cR)],gP:=[24,54],stay:=[29,59] }),
 (289,{ loops:=[(5,[0,1,8,9,10,11],[9]++cR)],stay:=[21,38] }),
 (290,{ stay:=[40,44,48,54] }),
 (291,{ loops:=[(2,[0,8,9],cR)] }),
 (292,{ loops:=[(3,[0,1,2,3,9,10],cR),(5,[0,1,2,3,9,10],cR),(14,[0,1,2,3,9,10,11],cR),(20,[0,1,2,3,9,10,12],cR)],stay:=[33,82,122] }),
 (293,{ loops:=[(3,[0,1,4,11,12],cR),(5,[0,1,4,11,12],cR)],stay:=[44,63] }),
 (294,{ loops:=[(3,[0,1,4,12,13],cR),(5,[0,1,4,12,13],cR),(13,[0,1,4,12,13],cR),(15,[0,1,4,12,13],cR)],stay:=[45,63,118,136] }),
 (297,{ loops:=[(1,[0,2,3,8],[10000])],stay:=[35,51] }),
 (298,{ stay:=[14] }),
 (299,{ stay:=[16,24,32] }),
 (300,{ stay:=[21] }),
 (303,{ loops:=[(1,[0,2,3,4,10],cR)],stay:=[38,56] }),
 (304,{ stay:=[17] }),
 (305,{ stay:=[19,28,37] }),
 (306,{ stay:=[18] }),
 (307,{ stay:=[21] })]
def H (f:Nat):Hint:=(find hints f).getD {}
def DH (l:List UInt8):List (List UInt8)->List UInt8
 |[]=>[]
 |[x]=>x
 |x::xs=>x++l++DH l xs
def strs:List (List AV)->Option (List (List UInt8))
 |[]=>some []
 |[.str s]::l=>(strs l).map (s:: ·)
 |_=>none
def tz:Nat->Nat->Nat
 |0,_=>0
 |k+1,n=>bif Nat.beq (n % 2) 1 then 0 else 1+tz k (n / 2)
def K4:List (List AV)->Option Nat
 |[]=>some 0
 |[[.int .u64 (.ofNat m)]]=>bif Nat.blt 0 m&&Nat.blt m 18446744073709551616 then some m else none
 |_=>none
def eX:Nat->Nat->Nat
 |0,_=>0
 |k+1,n=>n % 2+eX k (n / 2)
abbrev rJ:=List UInt8×Nat
def BF:List (List AV)->Option (List rJ)
 |[]=>some []
 |[.str s, .c4 1 ws]::l=>match K4 ws,BF l with
  |some w,some r=>some ((s,w)::r)
  |_,_=>none
 |_=>none
def I1 (p q:rJ):Bool:=Nat.blt (eX 64 q.2) (eX 64 p.2)||(Nat.beq (eX 64 p.2) (eX 64 q.2)&&Op.bytesLess p.1 q.1)
def A3:List rJ->Bool
 |[]=>true
 |x::l=>l.all (λy=>I1 x y||I1 y x)&&A3 l
def rJ.enc (p:rJ):List AV:=[.str p.1, .c4 1 (bif Nat.beq p.2 0 then[] else[[.int .u64 (p.2:Int)]])]
def rL:List (List AV)->Option (List (Int×Int))
 |[]=>some []
 |[.int .i64 f, .int .i64 t]::l=>(rL l).map ((f,t):: ·)
 |_=>none
def He (p:Int×Int):List AV:=[.int .i64 p.1, .int .i64 p.2]
abbrev uH:=Int×List (Int×Int)
def rC:List (List AV)->Option (List uH)
 |[]=>some []
 |[.int .i64 t, .c4 2 q]::l=>match rL q,rC l with
  |some a,some r=>some ((t,a)::r)
  |_,_=>none
 |_=>none
def S9 (p q:Int×Int):Bool:=decide (p.1<q.1)
def Bl:List (Int×Int)->Bool
 |[]=>true
 |x::l=>l.all (λy=>S9 x y||S9 y x)&&Bl l
def AD (p:List Int):List (Int×Int)->List Bool->List Int->List (List Int)->Option (List Bool×List Int×List (List Int))
 |[],q,w,z=>some (q,w,z)
 |(f,t)::l,q,w,z=>match q[t.toNat]? with
  |some b=>if t<0 then none else bif b then AD p l q w z else AD p l (q.set t.toNat true) (w++[t]) (z++[p++[f]])
  |none=>none
def SF (g:List uH):Nat->Nat->List Bool->List Int->List (List Int)->Option (List Int×List (List Int))
 |0,_,_,_,_=>none
 |k+1,i,q,w,B=>match w[i]?,B[i]? with
  |some n,some p=>match g[n.toNat]? with
   |some x=>match AD p x.2 q w B with
    |some (l,z,D)=>SF g k (i+1) l z D
    |none=>none
   |none=>none
  |_,_=>some (w,B)
def yx:List (List Int)->List Int->List (List Int)->List (List Int)
 |out,n::l,p::q=>yx (out.set n.toNat p) l q
 |out,_,_=>out
def tP (g:List uH):Option (List (List Int)):=(SF g (g.length+1) 0 ((List.replicate g.length false).set 0 true) [0] [[]]).map λr=>yx (List.replicate g.length []) r.1 r.2
def G1 (n:Nat):List UInt8:=bif Nat.blt n 10 then[UInt8.ofNat (48+n)] else[UInt8.ofNat (48+n / 10),UInt8.ofNat (48+n % 10)]
def LZ:cr:=λf args q=>match f,args,q with
 |128,[.pv (.c4 1 xs), .pv (.str w)],[]=>match strs xs with
  |some l=>bif Nat.ble (DH w l).length 140737488355328&&Nat.ble l.length 140737488355328 then some (.str (DH w l),[]) else none
  |none=>none
 |186,[.pv (.int .u64 n)],[]=>match n with
  | .ofNat m=>bif Nat.blt m 18446744073709551616 then some (.int .i64 (tz 64 m:Nat),[]) else none
  | .negSucc _=>none
 |180,[.row 10000],[(10000, .row 9 1 xs)]=>match strs xs with
  |some l=>bif Nat.ble l.length 1073741824 then some (.jy [],[(10000, .row 9 1 ((jB Op.bytesLess l).map iP))]) else none
  |none=>none
 |57,[.pv (.c4 1 xs)],[]=>bif Nat.ble (xs.length *8) 140737488355328 then some (.jy [.jy [.self 3, .c4 1 xs]],[]) else none
 |_,_,_=>none
def dm:cr:=λf args q=>match f,args,q with
 |130,[.row 10000, .pv (.fn 131 [])],[(10000, .row 112 2 xs)]=>match BF xs with
  |some l=>bif A3 l&&Nat.ble l.length 1073741824 then some (.jy [],[(10000, .row 112 2 ((jB I1 l).map rJ.enc))]) else none
  |none=>none
 |74,[.pv (.c4 2 xs)],[]=>bif Nat.ble (xs.length *32) 140737488355328 then some (.jy [.jy [.self 52, .c4 2 xs]],[]) else none
 |165,[.pv (.fn 214 [.ref [.c4 2 xs]]), .pv (.fn 167 [])],[]=>match rL xs with
  |some l=>bif Bl l&&Nat.ble l.length 1073741824 then some (.jy [.jy [.self 54, .c4 2 ((jB S9 l).map He)]],[]) else none
  |none=>none
 |83,[.pv (.int .i64 n)],[]=>match n with
  | .ofNat m=>bif Nat.blt m 100 then some (.str (G1 m),[]) else none
  | .negSucc _=>none
 |29,[.pv (.agg [.c4 2 xs])],[]=>match rC xs with
  |some g=>bif Nat.blt 0 g.length&&Nat.ble g.length 1073741824 then(tP g).map λw=>(.c4 1 (w.map λp=>[.c4 1 (p.map λn=>[.int .i64 n])]),[]) else none
  |none=>none
 |f,args,q=>LZ f args q
noncomputable abbrev Rn:cr:=run P H dm
instance:CT Node Node.enc:=⟨⟩
instance:CT FSt FSt.enc:=⟨⟩
instance:CT cZ cZ.enc:=⟨⟩
instance:CT gA gA.enc:=⟨⟩
instance:CT dg dg.enc:=⟨⟩
instance:CT dM dM.enc:=⟨⟩
instance:CT bD bD.enc:=⟨⟩
instance:CT bR bR.enc:=⟨⟩
instance:CT gz gz.enc:=⟨⟩
instance:CT dB dB.enc:=⟨⟩
instance:CT di di.enc:=⟨⟩
instance:CT result result.enc:=⟨⟩
instance:CT (List bD) (gI 2 bD.enc):=⟨⟩
instance:CT (List dB) (gI 2 dB.enc):=⟨⟩
instance {x:gA}:En x.Code (bU .u64):=⟨⟩
instance {x:gz}:En x.Code (bU .u64):=⟨⟩
instance {A:List Int} {B:List Int} {l q:AV} [w:Rw (AV.c4 1 (List.map (bU .i64) A)) l] [z:Rw (AV.c4 1 (List.map (bU .i64) B)) q]:Rw (dM.enc ⟨A,B⟩) [l,q]:=⟨by rw[<-w.e,<-z.e];rfl⟩
instance {l:Int} {q:Int} {w z:AV} [B:Rw (AV.int .i64 l) w] [D:Rw (AV.int .i64 q) z]:Rw (bD.enc ⟨l,q⟩) [w,z]:=⟨by rw[<-B.e,<-D.e];rfl⟩
instance {l:Int} {q:List bD} {w z:AV} [B:Rw (AV.int .i64 l) w] [D:Rw (AV.c4 2 (List.map bD.enc q)) z]:Rw (Node.enc ⟨l,q⟩) [w,z]:=⟨by rw[<-B.e,<-D.e];rfl⟩
instance:CT table table.enc:=⟨⟩
instance:NI (List (List UInt8)) (pL 1 iP):=⟨⟩
instance:NI (List Int) (pL 1 (bU .u64)):=⟨⟩
abbrev Lt {l:Type} (f t:Option l):Prop:=∀{r:l},t=some r->f=some r
noncomputable abbrev rn {l:Type} (q:l->AV) (f:Nat) (a:List SV):Option l:=dec (EN q) (Rn f a [])
noncomputable abbrev hd {l:Type} (q:l->AV) (f k:Nat) (e:List (Nat×SV)) (o:List (Nat×Ob)):Option l:=dec (EN q) (mM P lH H dm f k [] e o)
noncomputable abbrev hx {w:Type} (q:w->Out) (f k:Nat) (l:List Nat) (e:List (Nat×SV)) (o:List (Nat×Ob)):Option w:=dec q (mM P lH H dm f k l e o)
abbrev dN (x:FSt):Ob:= .box 24 (List.map .pv (FSt.enc x))
abbrev qw (x:dr):Ob:= .box 34 (List.map .pv (dr.enc x))
abbrev r8 (x:Node):Ob:= .box 52 (List.map .pv (Node.enc x))
abbrev rN (x:cZ):Ob:= .box 90 (List.map .pv (cZ.enc x))
abbrev kz (x:bR):Ob:= .box 93 (List.map .pv (bR.enc x))
abbrev pI (x:List (V9.T×Gw.T)):Ob:= .mp 9 110 (cw V9 Gw x).1 (cw V9 Gw x).2
abbrev fI (x:List (V9.T×V3.T)):Ob:= .mp 9 3 (cw V9 V3 x).1 (cw V9 V3 x).2
abbrev rB (x:List (V9.T×V4.T)):Ob:= .mp 9 4 (cw V9 V4 x).1 (cw V9 V4 x).2
abbrev me (x:FSt):SV:= .pv (.agg (FSt.enc x))
abbrev vg (x:bR):SV:= .pv (.agg (bR.enc x))
abbrev tV (x:dr):SV:= .pv (.agg (dr.enc x))
abbrev aH (x:Int):SV:= .pv (.int .i64 x)
abbrev Fc (x:List (FSt)):SV:= .pv (.c4 1 (List.map FSt.enc x))
abbrev fJ (x:List (Int)):SV:= .pv (.c4 1 (List.map (bU .i64) x))
abbrev vR (x:List (List (Int))):SV:= .pv (.c4 1 (List.map (gI 1 (bU .i64)) x))
abbrev Fe (x:List (List (dB))):SV:= .pv (.c4 1 (List.map (gI 2 dB.enc) x))
abbrev Ie (x:List (Int)):SV:= .pv (.c4 1 (List.map (bU .u64) x))
abbrev Qo (x:List (List UInt8)):SV:= .pv (.c4 1 (List.map iP x))
abbrev gL (x:List (bD)):SV:= .pv (.c4 2 (List.map bD.enc x))
abbrev eL (x:List (gz)):SV:= .pv (.c4 2 (List.map gz.enc x))
abbrev gU (x:List (bR)):SV:= .pv (.c4 2 (List.map bR.enc x))
abbrev ig (x:List (dg)):SV:= .pv (.c4 2 (List.map dg.enc x))
abbrev iF (x:List (Node)):SV:= .pv (.c4 2 (List.map Node.enc x))
abbrev Ai (x:List (dM)):SV:= .pv (.c4 2 (List.map dM.enc x))
abbrev bT (x:List (cZ)):SV:= .pv (.c4 3 (List.map cZ.enc x))
abbrev lK (x:List (gA)):SV:= .pv (.c4 4 (List.map gA.enc x))
abbrev ps_ (x:List UInt8):SV:= .pv (.str x)
abbrev mO (n:Nat):Nat×SV:=(n, .ptr n 0)
abbrev I5 (n:Nat):Nat×SV:=(n, .row n)
abbrev Dm (x:List (gz)):Ob:= .row 112 2 (List.map gz.enc x)
abbrev de (x:List (List (dB))):Ob:= .row 114 1 (List.map (gI 2 dB.enc) x)
abbrev wO (x:List (gA)):Ob:= .row 116 4 (List.map gA.enc x)
abbrev Cn (x:List (dB)):Ob:= .row 128 2 (List.map dB.enc x)
abbrev pN (x:List (di)):Ob:= .row 137 2 (List.map di.enc x)
abbrev pO (x:List (dg)):Ob:= .row 155 2 (List.map dg.enc x)
abbrev vT (x:List (FSt)):Ob:= .row 24 1 (List.map FSt.enc x)
abbrev dn (x:List (Int)):Ob:= .row 3 1 (List.map (bU .i64) x)
abbrev Aq (x:List (Bool)):Ob:= .row 4 1 (List.map mL x)
abbrev ua (x:List (List (bD))):Ob:= .row 50 1 (List.map (gI 2 bD.enc) x)
abbrev jr (x:List (Node)):Ob:= .row 52 2 (List.map Node.enc x)
abbrev jv (x:List (bD)):Ob:= .row 54 2 (List.map bD.enc x)
abbrev Co (x:List (List (Int))):Ob:= .row 60 1 (List.map (gI 1 (bU .i64)) x)
abbrev nM (x:List (dM)):Ob:= .row 65 2 (List.map dM.enc x)
abbrev AP (x:List (cZ)):Ob:= .row 90 3 (List.map cZ.enc x)
abbrev uB (x:List (bR)):Ob:= .row 93 2 (List.map bR.enc x)
abbrev fH (x:List (List UInt8)):Ob:= .row 9 1 (List.map iP x)
abbrev QY:=λl x1 x2 x3 q w=>([(10000,(.box 171 [(bT l),(eL x1),(.row 10001),(.row 20002),(.row 20003),(.row 20004)])),(10001,(fI x2)),(20002,(fH x3)),(20003,(dn q)),(20004,(de w))]:List (Nat×Ob))
abbrev Sh:=λl x1 x2 x3 q=>([(10000,(.box 98 [(lK l),(ig x1),(.row 20001),(.row 20002),(.row 20003)])),(20001,(dn x2)),(20002,(dn x3)),(20003,(ua q))]:List (Nat×Ob))
abbrev UZ:=λl x1 x2 x3 q w=>([(10002,(.box 171 [(bT l),(eL x1),(.row 10003),(.row 10004),(.row 10005),(.row 10006)])),(10003,(fI x2)),(10004,(fH x3)),(10005,(dn q)),(10006,(de w))]:List (Nat×Ob))
abbrev Vt:=λl x1 x2 x3 q w=>([(10000,(.box 171 [(bT l),(eL x1),(.row 10001),(.row 10002),(.row 10003),(.row 10004)])),(10001,(fI x2)),(10002,(fH x3)),(10003,(dn q)),(10004,(de w))]:List (Nat×Ob))
abbrev tl5:=λl x1 x2 x3 q w z=>([(10000,(.box 95 [(.ptr 10004 0)])),(10001,(.box 60 [(.row 20005)])),(10002,(.box 24 [(.row 20006)])),(10003,(.box 139 [(.cl 91 [.p 10000, .p 10001, .p 10002, .p 10003])])),(10004,(.box 98 [(lK l),(ig x1),(.row 20007),(.row 20008),(.row 20009)])),(20005,(dn x2)),(20006,(jr x3)),(20007,(dn q)),(20008,(dn w)),(20009,(ua z))]:List (Nat×Ob))
abbrev tl6:=λl x1 x2 x3 q w=>([(10000,(.box 95 [(.ptr 10002 0)])),(10001,(.box 138 [(.row 20003)])),(10002,(.box 98 [(lK l),(ig x1),(.row 20004),(.row 20005),(.row 20006)])),(20003,(pN x2)),(20004,(dn x3)),(20005,(dn q)),(20006,(ua w))]:List (Nat×Ob))
abbrev tl7:=λl x1 x2=>([(3,(dN l)),(4,(dN x1)),(5,(.box 24 [(.row 5080)])),(5080,(jr x2))]:List (Nat×Ob))
def jb {T:Type} {E:T->Out} [e7 E] {raw:Option Out} {t:Option T} [i:Im E t raw] {f:Nat} {args:List SV} {l:List (Nat×Ob)} (q:N7 P lH H dm f args l=raw:=by kernel_rfl) (w:dm f args l=none:=by rfl):Lt (dec E (run P H dm f args l)) t:=
 λz=>mN z i.p q λh=>kq (C:=lH) w h
def jh {T:Type} {E:T->Out} [e7 E] {raw:Option Out} {t:Option T} [i:Im E t raw] {f key:Nat} {names:List Nat} {l:List (Nat×SV)} {q:List (Nat×Ob)} (w:KM P lH H dm f key names l q=raw:=by kernel_rfl):Lt (dec E (mM P lH H dm f key names l q)) t:=
 λz=>mN z i.p w λh=>kO h
