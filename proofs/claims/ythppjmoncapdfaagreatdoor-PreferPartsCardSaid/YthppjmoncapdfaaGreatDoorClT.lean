/- The types and codecs of the program, by program (decomp4.py). -/
import Derived.Test.YthppjmoncapdfaaGreatDoorProg
import Derived.Test.YthppjmoncapdfaaGreatDoorAmI
import Derived.KernelRfl
set_option linter.unusedVariables false
set_option linter.unusedSimpArgs false
set_option maxRecDepth 100000
namespace Go.Proofs.YthppjmoncapdfaaGreatDoor.cl
open Go Go.AM
noncomputable abbrev P:Program:=Tryz.prog
def strOf:AV→List UInt8
 | .str s=>s
 |_=>[]
def isStr:AV→Bool
 | .str _=>true
 |_=>false
def uN:List AV→List UInt8
 |[a]=>strOf a
 |_=>[]
def AD:List AV→Bool
 |[a]=>isStr a
 |_=>false
def Ln (xs:List (List AV)) (ks:List AV):Bool:=xs.all AD&&ks.all isStr&&Nat.ble (xs.length+ks.length) 1073741824
def UW (xs:List (List AV)) (ks:List AV):List (List AV):=(gZ Op.bytesLess (xs.map uN++ks.map strOf)).map eX
def Jz (st:St):Bool:=match st.env 0,st.env 3,st.ob 10000 with
 |some (.ptr 10000 0),some (.row 15),some (.box 171 [.pv _, .pv _, .row 10001, .row 20002, .row 20003, .row 20004])=>
  match st.ob 15,st.ob 20002,st.ob 10001,st.ob 20003,st.ob 20004 with
  |some (.mp 9 4 ks _),some (.row 9 1 xs),some (.mp 9 3 _ _),some (.row 3 1 _),some (.row 114 1 _)=>Ln xs ks
  |_,_,_,_,_=>false
 |_,_,_=>false
def Jy (st:St):Nat×St:=match st.ob 15,st.ob 20002,st.ob 10000,st.ob 10001,st.ob 20003,st.ob 20004 with
 |some (.mp _ _ ks _),some (.row _ _ xs),some o0,some o1,some o3,some o4=>(1,{ env:=find [(2, .pv (.int .i64 0))],ob:=find [(10000,o0),(10001,o1),(20002, .row 9 1 (UW xs ks)),(20003,o3),(20004,o4)] })
 |_,_,_,_,_,_=>(1,st)
theorem Ry (V:mF) {X:List (List UInt8)} {Y:List (List UInt8×V.T)} (h:X.length+Y.length≤1073741824):Ln (X.map eX) (bW ⟨List UInt8,AV.str⟩ V Y).1=true:=by
 unfold Ln;simp only [Bool.and_eq_true,List.all_eq_true,List.mem_map];refine ⟨⟨?_,?_⟩,?_⟩
 ·rintro _ ⟨x,_,rfl⟩;rfl
 ·intro a ha
  simp only [bW,List.mem_map] at ha;obtain ⟨p,_,rfl⟩:=ha;rfl
 ·rw [Nat.ble_eq];simpa [bW] using h
theorem RA {V:mF} (X:List (List UInt8)) (Y:List (List UInt8×V.T)):UW (X.map eX) (bW ⟨List UInt8,AV.str⟩ V Y).1=(gZ Op.bytesLess (X++Y.map Prod.fst)).map eX:=by
 unfold UW;have e1:(X.map eX).map uN=X:=by
  rw [List.map_map];exact (List.map_congr_left (fun x _=>rfl)).trans (List.map_id X)
 have e2:(bW ⟨List UInt8,AV.str⟩ V Y).1.map strOf=Y.map Prod.fst:=by
  simp only [bW,List.map_map];exact List.map_congr_left (fun x _=>rfl)
 rw [e1,e2]
abbrev V3:mF:=⟨Int,AV.int .i64⟩
instance:cQ V3.enc:=⟨fun a b h=>by
 injection h⟩
instance:FC V3:=⟨fun a b=>⟨(inferInstance:DecidableEq (Int)) a b,by
 simp only [p9,if_true]
 first|rfl|(congr 1;first|rfl|(rw [Bool.eq_iff_iff];simp))⟩⟩
abbrev V4:mF:=⟨Bool,AV.bool⟩
instance:cQ V4.enc:=⟨fun a b h=>by
 injection h⟩
instance:FC V4:=⟨fun a b=>⟨(inferInstance:DecidableEq (Bool)) a b,by
 simp only [p9,if_true]
 first|rfl|(congr 1;first|rfl|(rw [Bool.eq_iff_iff];simp))⟩⟩
abbrev V9:mF:=⟨List UInt8,AV.str⟩
instance:cQ V9.enc:=⟨fun a b h=>by
 injection h⟩
instance:FC V9:=⟨fun a b=>⟨(inferInstance:DecidableEq (List UInt8)) a b,by
 simp only [p9,if_true]
 first|rfl|(congr 1;first|rfl|(rw [Bool.eq_iff_iff];simp))⟩⟩
structure aF where
 aP:Int
 To:Int
 deriving Inhabited
def aF.enc (x:aF):List AV:=[.int .i64 x.aP, .int .i64 x.To]
theorem aF.inj:∀(a b:aF),aF.enc a=aF.enc b→a=b:=by
 intro a b h;obtain ⟨IY,aTo⟩:=a;obtain ⟨I1,bTo⟩:=b;simp only [aF.enc,List.cons.injEq,AV.int.injEq,AV.str.injEq,AV.bool.injEq,AV.aW.injEq,AV.mp.injEq,true_and,and_true] at h;obtain ⟨h0,h1⟩:=h;change IY=I1 at h0;change aTo=bTo at h1;subst h0 h1;rfl
instance:cQ aF.enc:=⟨aF.inj⟩
structure Node where
 dN:Int
 cO:List aF
 deriving Inhabited
def Node.enc (x:Node):List AV:=[.int .i64 x.dN, .aW 2 (List.map aF.enc x.cO)]
theorem Node.inj:∀(a b:Node),Node.enc a=Node.enc b→a=b:=by
 intro a b h;obtain ⟨Xg,ZF⟩:=a;obtain ⟨Xn,ZJ⟩:=b;simp only [Node.enc,List.cons.injEq,AV.int.injEq,AV.str.injEq,AV.bool.injEq,AV.aW.injEq,AV.mp.injEq,true_and,and_true] at h;obtain ⟨h0,h1⟩:=h
 replace h1:=map_inj cQ.inj _ _ h1
 change Xg=Xn at h0;change ZF=ZJ at h1;subst h0 h1;rfl
instance:cQ Node.enc:=⟨Node.inj⟩
structure FSt where
 aj:List Node
 deriving Inhabited
def FSt.enc (x:FSt):List AV:=[.aW 2 (List.map Node.enc x.aj)]
theorem FSt.inj:∀(a b:FSt),FSt.enc a=FSt.enc b→a=b:=by
 intro a b h;obtain ⟨Xf⟩:=a;obtain ⟨Xm⟩:=b;simp only [FSt.enc,List.cons.injEq,AV.int.injEq,AV.str.injEq,AV.bool.injEq,AV.aW.injEq,AV.mp.injEq,true_and,and_true] at h;have h0:=h
 replace h0:=map_inj cQ.inj _ _ h0
 change Xf=Xm at h0;subst h0;rfl
instance:cQ FSt.enc:=⟨FSt.inj⟩
structure aK where
 aP:List UInt8
 Value:List UInt8
 deriving Inhabited
def aK.enc (x:aK):List AV:=[.str x.aP, .str x.Value]
theorem aK.inj:∀(a b:aK),aK.enc a=aK.enc b→a=b:=by
 intro a b h;obtain ⟨IY,K9⟩:=a;obtain ⟨I1,Lm⟩:=b;simp only [aK.enc,List.cons.injEq,AV.int.injEq,AV.str.injEq,AV.bool.injEq,AV.aW.injEq,AV.mp.injEq,true_and,and_true] at h;obtain ⟨h0,h1⟩:=h;change IY=I1 at h0;change K9=Lm at h1;subst h0 h1;rfl
instance:cQ aK.enc:=⟨aK.inj⟩
structure aC where
 Name:List UInt8
 vZ:List (List UInt8)
 bV:List aK
 deriving Inhabited
def aC.enc (x:aC):List AV:=[.str x.Name, .aW 1 (List.map eX x.vZ), .aW 2 (List.map aK.enc x.bV)]
theorem aC.inj:∀(a b:aC),aC.enc a=aC.enc b→a=b:=by
 intro a b h;obtain ⟨BX,FG,BW⟩:=a;obtain ⟨B8,FM,B7⟩:=b;simp only [aC.enc,List.cons.injEq,AV.int.injEq,AV.str.injEq,AV.bool.injEq,AV.aW.injEq,AV.mp.injEq,true_and,and_true] at h;obtain ⟨h0,h1,h2⟩:=h
 replace h1:=map_inj cQ.inj _ _ h1
 replace h2:=map_inj cQ.inj _ _ h2
 change BX=B8 at h0;change FG=FM at h1;change BW=B7 at h2;subst h0 h1 h2;rfl
instance:cQ aC.enc:=⟨aC.inj⟩
structure aM where
 aP:Int
 Value:Int
 deriving Inhabited
def aM.enc (x:aM):List AV:=[.int .i64 x.aP, .int .i64 x.Value]
theorem aM.inj:∀(a b:aM),aM.enc a=aM.enc b→a=b:=by
 intro a b h;obtain ⟨IY,K9⟩:=a;obtain ⟨I1,Lm⟩:=b;simp only [aM.enc,List.cons.injEq,AV.int.injEq,AV.str.injEq,AV.bool.injEq,AV.aW.injEq,AV.mp.injEq,true_and,and_true] at h;obtain ⟨h0,h1⟩:=h;change IY=I1 at h0;change K9=Lm at h1;subst h0 h1;rfl
instance:cQ aM.enc:=⟨aM.inj⟩
structure aX where
 Name:List UInt8
 Code:List Int
 vZ:List Int
 bV:List aM
 deriving Inhabited
def aX.enc (x:aX):List AV:=[.str x.Name, .aW 1 (List.map (aD .u64) x.Code), .aW 1 (List.map (aD .i64) x.vZ), .aW 2 (List.map aM.enc x.bV)]
theorem aX.inj:∀(a b:aX),aX.enc a=aX.enc b→a=b:=by
 intro a b h;obtain ⟨BX,Rk,FG,BW⟩:=a;obtain ⟨B8,Rv,FM,B7⟩:=b;simp only [aX.enc,List.cons.injEq,AV.int.injEq,AV.str.injEq,AV.bool.injEq,AV.aW.injEq,AV.mp.injEq,true_and,and_true] at h;obtain ⟨h0,h1,h2,h3⟩:=h
 replace h1:=map_inj cQ.inj _ _ h1
 replace h2:=map_inj cQ.inj _ _ h2
 replace h3:=map_inj cQ.inj _ _ h3
 change BX=B8 at h0;change Rk=Rv at h1;change FG=FM at h2;change BW=B7 at h3;subst h0 h1 h2 h3;rfl
instance:cQ aX.enc:=⟨aX.inj⟩
structure au where
 Name:List UInt8
 Intro:Int
 deriving Inhabited
def au.enc (x:au):List AV:=[.str x.Name, .int .i64 x.Intro]
theorem au.inj:∀(a b:au),au.enc a=au.enc b→a=b:=by
 intro a b h;obtain ⟨BX,Xe⟩:=a;obtain ⟨B8,Xl⟩:=b;simp only [au.enc,List.cons.injEq,AV.int.injEq,AV.str.injEq,AV.bool.injEq,AV.aW.injEq,AV.mp.injEq,true_and,and_true] at h;obtain ⟨h0,h1⟩:=h;change BX=B8 at h0;change Xe=Xl at h1;subst h0 h1;rfl
instance:cQ au.enc:=⟨au.inj⟩
structure bq where
 Types:List aX
 bV:List au
 deriving Inhabited
def bq.enc (x:bq):List AV:=[.aW 4 (List.map aX.enc x.Types), .aW 2 (List.map au.enc x.bV)]
theorem bq.inj:∀(a b:bq),bq.enc a=bq.enc b→a=b:=by
 intro a b h;obtain ⟨Xh,BW⟩:=a;obtain ⟨Xo,B7⟩:=b;simp only [bq.enc,List.cons.injEq,AV.int.injEq,AV.str.injEq,AV.bool.injEq,AV.aW.injEq,AV.mp.injEq,true_and,and_true] at h;obtain ⟨h0,h1⟩:=h
 replace h0:=map_inj cQ.inj _ _ h0
 replace h1:=map_inj cQ.inj _ _ h1
 change Xh=Xo at h0;change BW=B7 at h1;subst h0 h1;rfl
instance:cQ bq.enc:=⟨bq.inj⟩
structure bg where
 A:List Int
 B:List Int
 deriving Inhabited
def bg.enc (x:bg):List AV:=[.aW 1 (List.map (aD .i64) x.A), .aW 1 (List.map (aD .i64) x.B)]
theorem bg.inj:∀(a b:bg),bg.enc a=bg.enc b→a=b:=by
 intro a b h;obtain ⟨aA,aB⟩:=a;obtain ⟨bA,bB⟩:=b;simp only [bg.enc,List.cons.injEq,AV.int.injEq,AV.str.injEq,AV.bool.injEq,AV.aW.injEq,AV.mp.injEq,true_and,and_true] at h;obtain ⟨h0,h1⟩:=h
 replace h0:=map_inj cQ.inj _ _ h0
 replace h1:=map_inj cQ.inj _ _ h1
 change aA=bA at h0;change aB=bB at h1;subst h0 h1;rfl
instance:cQ bg.enc:=⟨bg.inj⟩
structure result where
 h:bq
 f:FSt
 deriving Inhabited
def result.enc (x:result):List AV:=[.aW 4 (List.map aX.enc x.h.Types), .aW 2 (List.map au.enc x.h.bV), .aW 2 (List.map Node.enc x.f.aj)]
theorem result.inj:∀(a b:result),result.enc a=result.enc b→a=b:=by
 intro a b h;obtain ⟨ah,af⟩:=a;obtain ⟨UI,UH⟩:=ah;obtain ⟨UG⟩:=af;obtain ⟨bh,bf⟩:=b;obtain ⟨UT,US⟩:=bh;obtain ⟨UR⟩:=bf;simp only [result.enc,List.cons.injEq,AV.int.injEq,AV.str.injEq,AV.bool.injEq,AV.aW.injEq,AV.mp.injEq,true_and,and_true] at h;obtain ⟨h0,h1,h2⟩:=h
 replace h0:=map_inj cQ.inj _ _ h0
 replace h1:=map_inj cQ.inj _ _ h1
 replace h2:=map_inj cQ.inj _ _ h2
 change UI=UT at h0;change UH=US at h1;change UG=UR at h2;subst h0 h1 h2;rfl
instance:cQ result.enc:=⟨result.inj⟩
structure bR where
 Name:List UInt8
 Code:List Int
 deriving Inhabited
def bR.enc (x:bR):List AV:=[.str x.Name, .aW 1 (List.map (aD .u64) x.Code)]
theorem bR.inj:∀(a b:bR),bR.enc a=bR.enc b→a=b:=by
 intro a b h;obtain ⟨BX,Rk⟩:=a;obtain ⟨B8,Rv⟩:=b;simp only [bR.enc,List.cons.injEq,AV.int.injEq,AV.str.injEq,AV.bool.injEq,AV.aW.injEq,AV.mp.injEq,true_and,and_true] at h;obtain ⟨h0,h1⟩:=h
 replace h1:=map_inj cQ.inj _ _ h1
 change BX=B8 at h0;change Rk=Rv at h1;subst h0 h1;rfl
instance:cQ bR.enc:=⟨bR.inj⟩
structure aT where
 a0:Int
 a1:Int
 deriving Inhabited
def aT.enc (x:aT):List AV:=[.int .i64 x.a0, .int .i64 x.a1]
theorem aT.inj:∀(a b:aT),aT.enc a=aT.enc b→a=b:=by
 intro a b h;obtain ⟨aa0,aa1⟩:=a;obtain ⟨ba0,ba1⟩:=b;simp only [aT.enc,List.cons.injEq,AV.int.injEq,AV.str.injEq,AV.bool.injEq,AV.aW.injEq,AV.mp.injEq,true_and,and_true] at h;obtain ⟨h0,h1⟩:=h;change aa0=ba0 at h0;change aa1=ba1 at h1;subst h0 h1;rfl
instance:cQ aT.enc:=⟨aT.inj⟩
structure table where
 d:List aC
 codes:List bR
 number:List ((List UInt8)×Int)
 R2:List (List UInt8)
 intro:List Int
 values:List (List aM)
 deriving Inhabited
def table.enc (x:table):List AV:=[.aW 3 (List.map aC.enc x.d), .aW 2 (List.map bR.enc x.codes), .mp (bW V9 V3 x.number).1 (bW V9 V3 x.number).2, .aW 1 (List.map eX x.R2), .aW 1 (List.map (aD .i64) x.intro), .aW 1 (List.map (bD 2 aM.enc) x.values)]
theorem table.inj:∀(a b:table),table.enc a=table.enc b→a=b:=by
 intro a b h;obtain ⟨ad,Xi,UK,Xj,Xk,UQ⟩:=a;obtain ⟨bd,Xp,UZ,Xq,Xs,U6⟩:=b;simp only [table.enc,List.cons.injEq,AV.int.injEq,AV.str.injEq,AV.bool.injEq,AV.aW.injEq,AV.mp.injEq,true_and,and_true] at h;obtain ⟨h0,h1,h2,h3,h4,h5⟩:=h
 replace h0:=map_inj cQ.inj _ _ h0
 replace h1:=map_inj cQ.inj _ _ h1
 replace h2:=mM (K:=V9) (V:=V3) h2.1 h2.2
 replace h3:=map_inj cQ.inj _ _ h3
 replace h4:=map_inj cQ.inj _ _ h4
 replace h5:=map_inj cQ.inj _ _ h5
 change ad=bd at h0;change Xi=Xp at h1;change UK=UZ at h2;change Xj=Xq at h3;change Xk=Xs at h4;change UQ=U6 at h5;subst h0 h1 h2 h3 h4 h5;rfl
instance:cQ table.enc:=⟨table.inj⟩
abbrev C52:Ah:=⟨Node,Node.enc⟩
abbrev C24:Ah:=⟨FSt,FSt.enc⟩
abbrev C90:Ah:=⟨aC,aC.enc⟩
abbrev C116:Ah:=⟨aX,aX.enc⟩
abbrev C155:Ah:=⟨au,au.enc⟩
abbrev C65:Ah:=⟨bg,bg.enc⟩
abbrev C54:Ah:=⟨aF,aF.enc⟩
abbrev C60:Ah:=⟨List (Int),(bD 1 (aD .i64))⟩
abbrev C3:Ah:=⟨Int,(aD .i64)⟩
abbrev C9:Ah:=⟨List UInt8,eX⟩
abbrev C93:Ah:=⟨aK,aK.enc⟩
abbrev C50:Ah:=⟨List (aF),(bD 2 aF.enc)⟩
abbrev C4:Ah:=⟨Bool,kA⟩
abbrev C114:Ah:=⟨List (aM),(bD 2 aM.enc)⟩
abbrev C112:Ah:=⟨bR,bR.enc⟩
abbrev C164:Ah:=⟨Int,(aD .u64)⟩
abbrev C128:Ah:=⟨aM,aM.enc⟩
abbrev C137:Ah:=⟨aT,aT.enc⟩
abbrev C110:Ah:=⟨List (Int),(bD 1 (aD .u64))⟩
abbrev C5:Ah:=⟨Int,(aD .u8)⟩
abbrev C74:Ah:=⟨result,result.enc⟩
abbrev ZD:mF:=⟨List (List UInt8),(fun x=>AV.aW 1 (x.map eX))⟩
instance:cQ ZD.enc:=⟨fun a b h=>by
 injection h with _ h
 exact map_inj cQ.inj _ _ h⟩
abbrev jx:mF:=⟨List Int,(fun x=>AV.aW 1 (x.map (aD .u64)))⟩
instance:cQ jx.enc:=⟨fun a b h=>by
 injection h with _ h
 exact map_inj cQ.inj _ _ h⟩
def Q0:Bool→AV:=(fun (x:Bool)=>((.bool x):AV))
instance:cQ Q0:=⟨fun a b h=>by
 simp only [Q0,AV.mp.injEq,AV.int.injEq,AV.str.injEq,AV.bool.injEq,AV.aW.injEq,AV.agg.injEq,AV.dI.injEq,List.cons.injEq,true_and,and_true] at h
 exact h⟩
def Q1:(List FSt)→AV:=(fun (x:List FSt)=>((.aW 1 (List.map FSt.enc x)):AV))
instance:cQ Q1:=⟨fun a b h=>by
 simp only [Q1,AV.mp.injEq,AV.int.injEq,AV.str.injEq,AV.bool.injEq,AV.aW.injEq,AV.agg.injEq,AV.dI.injEq,List.cons.injEq,true_and,and_true] at h
 exact map_inj cQ.inj _ _ h⟩
def Q2:bq→AV:=(fun (x:bq)=>((.agg (bq.enc x)):AV))
instance:cQ Q2:=⟨fun a b h=>by
 simp only [Q2,AV.mp.injEq,AV.int.injEq,AV.str.injEq,AV.bool.injEq,AV.aW.injEq,AV.agg.injEq,AV.dI.injEq,List.cons.injEq,true_and,and_true] at h
 exact cQ.inj _ _ h⟩
def Q3:FSt→AV:=(fun (x:FSt)=>((.agg (FSt.enc x)):AV))
instance:cQ Q3:=⟨fun a b h=>by
 simp only [Q3,AV.mp.injEq,AV.int.injEq,AV.str.injEq,AV.bool.injEq,AV.aW.injEq,AV.agg.injEq,AV.dI.injEq,List.cons.injEq,true_and,and_true] at h
 exact cQ.inj _ _ h⟩
def Q4:(List bg)→AV:=(fun (x:List bg)=>((.aW 2 (List.map bg.enc x)):AV))
instance:cQ Q4:=⟨fun a b h=>by
 simp only [Q4,AV.mp.injEq,AV.int.injEq,AV.str.injEq,AV.bool.injEq,AV.aW.injEq,AV.agg.injEq,AV.dI.injEq,List.cons.injEq,true_and,and_true] at h
 exact map_inj cQ.inj _ _ h⟩
def Q5:Int→AV:=(fun (x:Int)=>((.int .i64 x):AV))
instance:cQ Q5:=⟨fun a b h=>by
 simp only [Q5,AV.mp.injEq,AV.int.injEq,AV.str.injEq,AV.bool.injEq,AV.aW.injEq,AV.agg.injEq,AV.dI.injEq,List.cons.injEq,true_and,and_true] at h
 exact h⟩
def Q6:(List (List Int))→AV:=(fun (x:List (List Int))=>((.aW 1 (List.map (bD 1 (aD .i64)) x)):AV))
instance:cQ Q6:=⟨fun a b h=>by
 simp only [Q6,AV.mp.injEq,AV.int.injEq,AV.str.injEq,AV.bool.injEq,AV.aW.injEq,AV.agg.injEq,AV.dI.injEq,List.cons.injEq,true_and,and_true] at h
 exact map_inj cQ.inj _ _ h⟩
def Q7:(bq×Int)→AV:=(fun (x:bq×Int)=>((.dI [(.agg (bq.enc x.1)),(.int .i64 x.2)]):AV))
instance:cQ Q7:=⟨fun a b h=>by
 obtain ⟨a0,a1⟩:=a;obtain ⟨b0,b1⟩:=b;simp only [Q7,AV.mp.injEq,AV.int.injEq,AV.str.injEq,AV.bool.injEq,AV.aW.injEq,AV.agg.injEq,AV.dI.injEq,List.cons.injEq,true_and,and_true] at h;obtain ⟨h0,h1⟩:=h
 replace h0:a0=b0:=cQ.inj _ _ h0
 replace h1:a1=b1:=h1
 subst h0 h1
 rfl⟩
def Q8:(List aC)→AV:=(fun (x:List aC)=>((.aW 3 (List.map aC.enc x)):AV))
instance:cQ Q8:=⟨fun a b h=>by
 simp only [Q8,AV.mp.injEq,AV.int.injEq,AV.str.injEq,AV.bool.injEq,AV.aW.injEq,AV.agg.injEq,AV.dI.injEq,List.cons.injEq,true_and,and_true] at h
 exact map_inj cQ.inj _ _ h⟩
def Q9:(FSt×Bool)→AV:=(fun (x:FSt×Bool)=>((.dI [(.agg (FSt.enc x.1)),(.bool x.2)]):AV))
instance:cQ Q9:=⟨fun a b h=>by
 obtain ⟨a0,a1⟩:=a;obtain ⟨b0,b1⟩:=b;simp only [Q9,AV.mp.injEq,AV.int.injEq,AV.str.injEq,AV.bool.injEq,AV.aW.injEq,AV.agg.injEq,AV.dI.injEq,List.cons.injEq,true_and,and_true] at h;obtain ⟨h0,h1⟩:=h
 replace h0:a0=b0:=cQ.inj _ _ h0
 replace h1:a1=b1:=h1
 subst h0 h1
 rfl⟩
def Q10:(FSt×Int)→AV:=(fun (x:FSt×Int)=>((.dI [(.agg (FSt.enc x.1)),(.int .i64 x.2)]):AV))
instance:cQ Q10:=⟨fun a b h=>by
 obtain ⟨a0,a1⟩:=a;obtain ⟨b0,b1⟩:=b;simp only [Q10,AV.mp.injEq,AV.int.injEq,AV.str.injEq,AV.bool.injEq,AV.aW.injEq,AV.agg.injEq,AV.dI.injEq,List.cons.injEq,true_and,and_true] at h;obtain ⟨h0,h1⟩:=h
 replace h0:a0=b0:=cQ.inj _ _ h0
 replace h1:a1=b1:=h1
 subst h0 h1
 rfl⟩
def Q11:((List Int)×Bool)→AV:=(fun (x:(List Int)×Bool)=>((.dI [(.aW 1 (List.map (aD .i64) x.1)),(.bool x.2)]):AV))
instance:cQ Q11:=⟨fun a b h=>by
 obtain ⟨a0,a1⟩:=a;obtain ⟨b0,b1⟩:=b;simp only [Q11,AV.mp.injEq,AV.int.injEq,AV.str.injEq,AV.bool.injEq,AV.aW.injEq,AV.agg.injEq,AV.dI.injEq,List.cons.injEq,true_and,and_true] at h;obtain ⟨h0,h1⟩:=h
 replace h0:a0=b0:=map_inj cQ.inj _ _ h0
 replace h1:a1=b1:=h1
 subst h0 h1
 rfl⟩
def Q12:((List (List aM))×Int)→AV:=(fun (x:(List (List aM))×Int)=>((.dI [(.aW 1 (List.map (bD 2 aM.enc) x.1)),(.int .i64 x.2)]):AV))
instance:cQ Q12:=⟨fun a b h=>by
 obtain ⟨a0,a1⟩:=a;obtain ⟨b0,b1⟩:=b;simp only [Q12,AV.mp.injEq,AV.int.injEq,AV.str.injEq,AV.bool.injEq,AV.aW.injEq,AV.agg.injEq,AV.dI.injEq,List.cons.injEq,true_and,and_true] at h;obtain ⟨h0,h1⟩:=h
 replace h0:a0=b0:=map_inj cQ.inj _ _ h0
 replace h1:a1=b1:=h1
 subst h0 h1
 rfl⟩
def Q13:((List bR)×Int)→AV:=(fun (x:(List bR)×Int)=>((.dI [(.aW 2 (List.map bR.enc x.1)),(.int .i64 x.2)]):AV))
instance:cQ Q13:=⟨fun a b h=>by
 obtain ⟨a0,a1⟩:=a;obtain ⟨b0,b1⟩:=b;simp only [Q13,AV.mp.injEq,AV.int.injEq,AV.str.injEq,AV.bool.injEq,AV.aW.injEq,AV.agg.injEq,AV.dI.injEq,List.cons.injEq,true_and,and_true] at h;obtain ⟨h0,h1⟩:=h
 replace h0:a0=b0:=map_inj cQ.inj _ _ h0
 replace h1:a1=b1:=h1
 subst h0 h1
 rfl⟩
def Q14:aC→AV:=(fun (x:aC)=>((.agg (aC.enc x)):AV))
instance:cQ Q14:=⟨fun a b h=>by
 simp only [Q14,AV.mp.injEq,AV.int.injEq,AV.str.injEq,AV.bool.injEq,AV.aW.injEq,AV.agg.injEq,AV.dI.injEq,List.cons.injEq,true_and,and_true] at h
 exact cQ.inj _ _ h⟩
def Q15:(List Int)→AV:=(fun (x:List Int)=>((.aW 1 (List.map (aD .i64) x)):AV))
instance:cQ Q15:=⟨fun a b h=>by
 simp only [Q15,AV.mp.injEq,AV.int.injEq,AV.str.injEq,AV.bool.injEq,AV.aW.injEq,AV.agg.injEq,AV.dI.injEq,List.cons.injEq,true_and,and_true] at h
 exact map_inj cQ.inj _ _ h⟩
def Q16:(List (List UInt8))→AV:=(fun (x:List (List UInt8))=>((.aW 1 (List.map eX x)):AV))
instance:cQ Q16:=⟨fun a b h=>by
 simp only [Q16,AV.mp.injEq,AV.int.injEq,AV.str.injEq,AV.bool.injEq,AV.aW.injEq,AV.agg.injEq,AV.dI.injEq,List.cons.injEq,true_and,and_true] at h
 exact map_inj cQ.inj _ _ h⟩
def Q17:((List au)×Int)→AV:=(fun (x:(List au)×Int)=>((.dI [(.aW 2 (List.map au.enc x.1)),(.int .i64 x.2)]):AV))
instance:cQ Q17:=⟨fun a b h=>by
 obtain ⟨a0,a1⟩:=a;obtain ⟨b0,b1⟩:=b;simp only [Q17,AV.mp.injEq,AV.int.injEq,AV.str.injEq,AV.bool.injEq,AV.aW.injEq,AV.agg.injEq,AV.dI.injEq,List.cons.injEq,true_and,and_true] at h;obtain ⟨h0,h1⟩:=h
 replace h0:a0=b0:=map_inj cQ.inj _ _ h0
 replace h1:a1=b1:=h1
 subst h0 h1
 rfl⟩
def Q18:Unit→AV:=(fun (_:Unit)=>AV.dI [])
instance:cQ Q18:=⟨fun a b h=>rfl⟩
def Q19:(Int×Bool)→AV:=(fun (x:Int×Bool)=>((.dI [(.int .i64 x.1),(.bool x.2)]):AV))
instance:cQ Q19:=⟨fun a b h=>by
 obtain ⟨a0,a1⟩:=a;obtain ⟨b0,b1⟩:=b;simp only [Q19,AV.mp.injEq,AV.int.injEq,AV.str.injEq,AV.bool.injEq,AV.aW.injEq,AV.agg.injEq,AV.dI.injEq,List.cons.injEq,true_and,and_true] at h;obtain ⟨h0,h1⟩:=h
 replace h0:a0=b0:=h0
 replace h1:a1=b1:=h1
 subst h0 h1
 rfl⟩
def Q20:(List UInt8)→AV:=(fun (x:List UInt8)=>((.str x):AV))
instance:cQ Q20:=⟨fun a b h=>by
 simp only [Q20,AV.mp.injEq,AV.int.injEq,AV.str.injEq,AV.bool.injEq,AV.aW.injEq,AV.agg.injEq,AV.dI.injEq,List.cons.injEq,true_and,and_true] at h
 exact h⟩
def Q21:(List Int)→AV:=(fun (x:List Int)=>((.aW 1 (List.map (aD .u64) x)):AV))
instance:cQ Q21:=⟨fun a b h=>by
 simp only [Q21,AV.mp.injEq,AV.int.injEq,AV.str.injEq,AV.bool.injEq,AV.aW.injEq,AV.agg.injEq,AV.dI.injEq,List.cons.injEq,true_and,and_true] at h
 exact map_inj cQ.inj _ _ h⟩
def Q22:(List (List Int))→AV:=(fun (x:List (List Int))=>((.aW 1 (List.map (bD 1 (aD .u64)) x)):AV))
instance:cQ Q22:=⟨fun a b h=>by
 simp only [Q22,AV.mp.injEq,AV.int.injEq,AV.str.injEq,AV.bool.injEq,AV.aW.injEq,AV.agg.injEq,AV.dI.injEq,List.cons.injEq,true_and,and_true] at h
 exact map_inj cQ.inj _ _ h⟩
def Q23:(List Node)→AV:=(fun (x:List Node)=>((.aW 2 (List.map Node.enc x)):AV))
instance:cQ Q23:=⟨fun a b h=>by
 simp only [Q23,AV.mp.injEq,AV.int.injEq,AV.str.injEq,AV.bool.injEq,AV.aW.injEq,AV.agg.injEq,AV.dI.injEq,List.cons.injEq,true_and,and_true] at h
 exact map_inj cQ.inj _ _ h⟩
def Q24:(List Int)→AV:=(fun (x:List Int)=>(AV.dI [AV.dI [AV.self 3,AV.aW 1 (List.map (aD .i64) x)]]:AV))
instance:cQ Q24:=⟨fun a b h=>by
 simp only [Q24,AV.mp.injEq,AV.int.injEq,AV.str.injEq,AV.bool.injEq,AV.aW.injEq,AV.agg.injEq,AV.dI.injEq,List.cons.injEq,true_and,and_true] at h
 exact map_inj cQ.inj _ _ h⟩
def Q25:((List UInt8)×Bool)→AV:=(fun (x:(List UInt8)×Bool)=>((.dI [(.str x.1),(.bool x.2)]):AV))
instance:cQ Q25:=⟨fun a b h=>by
 obtain ⟨a0,a1⟩:=a;obtain ⟨b0,b1⟩:=b;simp only [Q25,AV.mp.injEq,AV.int.injEq,AV.str.injEq,AV.bool.injEq,AV.aW.injEq,AV.agg.injEq,AV.dI.injEq,List.cons.injEq,true_and,and_true] at h;obtain ⟨h0,h1⟩:=h
 replace h0:a0=b0:=h0
 replace h1:a1=b1:=h1
 subst h0 h1
 rfl⟩
def Q26:((List Int)×Bool)→AV:=(fun (x:(List Int)×Bool)=>((.dI [(.aW 1 (List.map (aD .u64) x.1)),(.bool x.2)]):AV))
instance:cQ Q26:=⟨fun a b h=>by
 obtain ⟨a0,a1⟩:=a;obtain ⟨b0,b1⟩:=b;simp only [Q26,AV.mp.injEq,AV.int.injEq,AV.str.injEq,AV.bool.injEq,AV.aW.injEq,AV.agg.injEq,AV.dI.injEq,List.cons.injEq,true_and,and_true] at h;obtain ⟨h0,h1⟩:=h
 replace h0:a0=b0:=map_inj cQ.inj _ _ h0
 replace h1:a1=b1:=h1
 subst h0 h1
 rfl⟩
def Q27:(List Node)→AV:=(fun (x:List Node)=>(AV.dI [AV.dI [AV.self 52,AV.aW 2 (List.map Node.enc x)]]:AV))
instance:cQ Q27:=⟨fun a b h=>by
 simp only [Q27,AV.mp.injEq,AV.int.injEq,AV.str.injEq,AV.bool.injEq,AV.aW.injEq,AV.agg.injEq,AV.dI.injEq,List.cons.injEq,true_and,and_true] at h
 exact map_inj cQ.inj _ _ h⟩
def Q28:(List aF)→AV:=(fun (x:List aF)=>(AV.dI [AV.dI [AV.self 54,AV.aW 2 (List.map aF.enc x)]]:AV))
instance:cQ Q28:=⟨fun a b h=>by
 simp only [Q28,AV.mp.injEq,AV.int.injEq,AV.str.injEq,AV.bool.injEq,AV.aW.injEq,AV.agg.injEq,AV.dI.injEq,List.cons.injEq,true_and,and_true] at h
 exact map_inj cQ.inj _ _ h⟩
def Q29:((Option table)×Int)→AV:=(fun (x:(Option table)×Int)=>((.dI [(F4 table.enc x.1),(.int .i64 x.2)]):AV))
instance:cQ Q29:=⟨fun a b h=>by
 obtain ⟨a0,a1⟩:=a;obtain ⟨b0,b1⟩:=b;simp only [Q29,AV.mp.injEq,AV.int.injEq,AV.str.injEq,AV.bool.injEq,AV.aW.injEq,AV.agg.injEq,AV.dI.injEq,List.cons.injEq,true_and,and_true] at h;obtain ⟨h0,h1⟩:=h
 replace h0:a0=b0:=cQ.inj _ _ h0
 replace h1:a1=b1:=h1
 subst h0 h1
 rfl⟩
def Q30:((List (List UInt8))×(List (List Int)))→AV:=(fun (x:(List (List UInt8))×(List (List Int)))=>((.dI [(.aW 1 (List.map eX x.1)),(.aW 1 (List.map (bD 1 (aD .u64)) x.2))]):AV))
instance:cQ Q30:=⟨fun a b h=>by
 obtain ⟨a0,a1⟩:=a;obtain ⟨b0,b1⟩:=b;simp only [Q30,AV.mp.injEq,AV.int.injEq,AV.str.injEq,AV.bool.injEq,AV.aW.injEq,AV.agg.injEq,AV.dI.injEq,List.cons.injEq,true_and,and_true] at h;obtain ⟨h0,h1⟩:=h
 replace h0:a0=b0:=map_inj cQ.inj _ _ h0
 replace h1:a1=b1:=map_inj cQ.inj _ _ h1
 subst h0 h1
 rfl⟩
def Q31:((List (List Int))×Bool)→AV:=(fun (x:(List (List Int))×Bool)=>((.dI [(.aW 1 (List.map (bD 1 (aD .u64)) x.1)),(.bool x.2)]):AV))
instance:cQ Q31:=⟨fun a b h=>by
 obtain ⟨a0,a1⟩:=a;obtain ⟨b0,b1⟩:=b;simp only [Q31,AV.mp.injEq,AV.int.injEq,AV.str.injEq,AV.bool.injEq,AV.aW.injEq,AV.agg.injEq,AV.dI.injEq,List.cons.injEq,true_and,and_true] at h;obtain ⟨h0,h1⟩:=h
 replace h0:a0=b0:=map_inj cQ.inj _ _ h0
 replace h1:a1=b1:=h1
 subst h0 h1
 rfl⟩
def Q32:((List Int)×Int)→AV:=(fun (x:(List Int)×Int)=>((.dI [(.aW 1 (List.map (aD .u64) x.1)),(.int .i64 x.2)]):AV))
instance:cQ Q32:=⟨fun a b h=>by
 obtain ⟨a0,a1⟩:=a;obtain ⟨b0,b1⟩:=b;simp only [Q32,AV.mp.injEq,AV.int.injEq,AV.str.injEq,AV.bool.injEq,AV.aW.injEq,AV.agg.injEq,AV.dI.injEq,List.cons.injEq,true_and,and_true] at h;obtain ⟨h0,h1⟩:=h
 replace h0:a0=b0:=map_inj cQ.inj _ _ h0
 replace h1:a1=b1:=h1
 subst h0 h1
 rfl⟩
def Q33:(List aF)→AV:=(fun (x:List aF)=>((.fn 214 [(.ref [(.aW 2 (List.map aF.enc x))])]):AV))
instance:cQ Q33:=⟨fun a b h=>by
 simp only [Q33,AV.fn.injEq,AV.ref.injEq,AV.mp.injEq,AV.int.injEq,AV.str.injEq,AV.bool.injEq,AV.aW.injEq,AV.agg.injEq,AV.dI.injEq,List.cons.injEq,true_and,and_true] at h
 exact map_inj cQ.inj _ _ h⟩
def Q34:Int→AV:=(fun (x:Int)=>((.int .u64 x):AV))
instance:cQ Q34:=⟨fun a b h=>by
 simp only [Q34,AV.mp.injEq,AV.int.injEq,AV.str.injEq,AV.bool.injEq,AV.aW.injEq,AV.agg.injEq,AV.dI.injEq,List.cons.injEq,true_and,and_true] at h
 exact h⟩
def Q35:(List ((List UInt8)×(List (List UInt8))))→AV:=(fun (x:List ((List UInt8)×(List (List UInt8))))=>((.mp (bW V9 ZD x).1 (bW V9 ZD x).2):AV))
instance:cQ Q35:=⟨fun a b h=>by
 simp only [Q35,AV.mp.injEq,AV.int.injEq,AV.str.injEq,AV.bool.injEq,AV.aW.injEq,AV.agg.injEq,AV.dI.injEq,List.cons.injEq,true_and,and_true] at h
 exact mM (K:=V9) (V:=ZD) h.1 h.2⟩
def Q36:(List ((List UInt8)×(List Int)))→AV:=(fun (x:List ((List UInt8)×(List Int)))=>((.mp (bW V9 jx x).1 (bW V9 jx x).2):AV))
instance:cQ Q36:=⟨fun a b h=>by
 simp only [Q36,AV.mp.injEq,AV.int.injEq,AV.str.injEq,AV.bool.injEq,AV.aW.injEq,AV.agg.injEq,AV.dI.injEq,List.cons.injEq,true_and,and_true] at h
 exact mM (K:=V9) (V:=jx) h.1 h.2⟩
def Q37:Nat→AV:=(fun (x:Nat)=>(AV.self x:AV))
instance:cQ Q37:=⟨fun a b h=>by
 simp only [Q37,AV.self.injEq] at h
 exact h⟩
def elems:List (Nat×Ah):=[(52,C52),(24,C24),(90,C90),(116,C116),(155,C155),(65,C65),(54,C54),(60,C60),(3,C3),(9,C9),(93,C93),(50,C50),(4,C4),(114,C114),(112,C112),(164,C164),(128,C128),(137,C137),(110,C110),(5,C5),(74,C74)]
def vals:List (Nat×mF):=[(3,V3),(4,V4),(9,V9),(87,ZD),(110,jx)]
def Uh:List (Nat×mF):=[(3,⟨_,Q0⟩),(4,⟨_,Q0⟩),(5,⟨_,Q0⟩),(6,⟨_,Q0⟩),(7,⟨_,Q0⟩),(8,⟨_,Q0⟩),(9,⟨_,Q0⟩),(10,⟨_,Q0⟩),(11,⟨_,Q0⟩),(12,⟨_,Q1⟩),(13,⟨_,Q1⟩),(14,⟨_,Q2⟩),(15,⟨_,Q0⟩),(16,⟨_,Q0⟩),(17,⟨_,Q3⟩),(18,⟨_,Q3⟩),(19,⟨_,Q9⟩),(20,⟨_,Q0⟩),(21,⟨_,Q0⟩),(22,⟨_,Q4⟩),(23,⟨_,Q9⟩),(24,⟨_,Q5⟩),(25,⟨_,Q5⟩),(26,⟨_,Q0⟩),(27,⟨_,Q10⟩),(28,⟨_,Q3⟩),(29,⟨_,Q6⟩),(30,⟨_,Q3⟩),(31,⟨_,Q3⟩),(32,⟨_,Q2⟩),(33,⟨_,Q5⟩),(34,⟨_,Q4⟩),(35,⟨_,Q9⟩),(36,⟨_,Q6⟩),(37,⟨_,Q3⟩),(38,⟨_,Q3⟩),(39,⟨_,Q7⟩),(40,⟨_,Q8⟩),(41,⟨_,Q5⟩),(42,⟨_,Q5⟩),(43,⟨_,Q0⟩),(44,⟨_,Q9⟩),(45,⟨_,Q9⟩),(46,⟨_,Q9⟩),(47,⟨_,Q11⟩),(48,⟨_,Q0⟩),(49,⟨_,Q5⟩),(50,⟨_,Q19⟩),(51,⟨_,Q0⟩),(52,⟨_,Q5⟩),(53,⟨_,Q3⟩),(55,⟨_,Q20⟩),(56,⟨_,Q7⟩),(57,⟨_,Q24⟩),(58,⟨_,Q0⟩),(59,⟨_,Q18⟩),(60,⟨_,Q0⟩),(61,⟨_,Q3⟩),(62,⟨_,Q5⟩),(63,⟨_,Q12⟩),(64,⟨_,Q13⟩),(65,⟨_,Q15⟩),(66,⟨_,Q17⟩),(67,⟨_,Q14⟩),(68,⟨_,Q19⟩),(69,⟨_,Q0⟩),(70,⟨_,Q15⟩),(71,⟨_,Q9⟩),(72,⟨_,Q9⟩),(73,⟨_,Q0⟩),(74,⟨_,Q27⟩),(75,⟨_,Q5⟩),(76,⟨_,Q10⟩),(77,⟨_,Q0⟩),(78,⟨_,Q0⟩),(79,⟨_,Q5⟩),(80,⟨_,Q18⟩),(81,⟨_,Q28⟩),(83,⟨_,Q20⟩),(84,⟨_,Q17⟩),(85,⟨_,Q12⟩),(86,⟨_,Q13⟩),(87,⟨_,Q15⟩),(88,⟨_,Q0⟩),(89,⟨_,Q19⟩),(90,⟨_,Q5⟩),(91,⟨_,Q5⟩),(92,⟨_,Q5⟩),(93,⟨_,Q16⟩),(94,⟨_,Q26⟩),(95,⟨_,Q5⟩),(96,⟨_,Q5⟩),(97,⟨_,Q16⟩),(98,⟨_,Q21⟩),(99,⟨_,Q22⟩),(100,⟨_,Q20⟩),(101,⟨_,Q0⟩),(102,⟨_,Q0⟩),(103,⟨_,Q25⟩),(104,⟨_,Q5⟩),(105,⟨_,Q0⟩),(106,⟨_,Q23⟩),(107,⟨_,Q15⟩),(108,⟨_,Q15⟩),(109,⟨_,Q24⟩),(110,⟨_,Q11⟩),(111,⟨_,Q3⟩),(112,⟨_,Q0⟩),(113,⟨_,Q0⟩),(114,⟨_,Q0⟩),(115,⟨_,Q5⟩),(116,⟨_,Q3⟩),(117,⟨_,Q5⟩),(118,⟨_,Q34⟩),(120,⟨_,Q29⟩),(121,⟨_,Q5⟩),(122,⟨_,Q30⟩),(123,⟨_,Q31⟩),(124,⟨_,Q5⟩),(125,⟨_,Q0⟩),(126,⟨_,Q0⟩),(127,⟨_,Q15⟩),(128,⟨_,Q20⟩),(129,⟨_,Q16⟩),(130,⟨_,Q18⟩),(132,⟨_,Q5⟩),(133,⟨_,Q5⟩),(136,⟨_,Q0⟩),(137,⟨_,Q0⟩),(138,⟨_,Q0⟩),(139,⟨_,Q21⟩),(140,⟨_,Q5⟩),(141,⟨_,Q0⟩),(142,⟨_,Q5⟩),(143,⟨_,Q16⟩),(144,⟨_,Q25⟩),(145,⟨_,Q21⟩),(146,⟨_,Q21⟩),(147,⟨_,Q0⟩),(148,⟨_,Q5⟩),(149,⟨_,Q5⟩),(150,⟨_,Q5⟩),(151,⟨_,Q16⟩),(152,⟨_,Q16⟩),(153,⟨_,Q0⟩),(154,⟨_,Q32⟩),(155,⟨_,Q0⟩),(156,⟨_,Q0⟩),(157,⟨_,Q0⟩),(158,⟨_,Q16⟩),(159,⟨_,Q5⟩),(160,⟨_,Q21⟩),(161,⟨_,Q19⟩),(162,⟨_,Q19⟩),(163,⟨_,Q19⟩),(164,⟨_,Q18⟩),(165,⟨_,Q28⟩),(166,⟨_,Q33⟩),(168,⟨_,Q5⟩),(169,⟨_,Q5⟩),(171,⟨_,Q5⟩),(172,⟨_,Q0⟩),(173,⟨_,Q5⟩),(174,⟨_,Q5⟩),(175,⟨_,Q5⟩),(176,⟨_,Q0⟩),(177,⟨_,Q5⟩),(178,⟨_,Q5⟩),(179,⟨_,Q16⟩),(180,⟨_,Q18⟩),(181,⟨_,Q16⟩),(182,⟨_,Q19⟩),(183,⟨_,Q32⟩),(184,⟨_,Q18⟩),(185,⟨_,Q20⟩),(186,⟨_,Q5⟩),(190,⟨_,Q16⟩),(191,⟨_,Q35⟩),(192,⟨_,Q16⟩),(193,⟨_,Q0⟩),(194,⟨_,Q0⟩),(195,⟨_,Q0⟩),(198,⟨_,Q0⟩),(200,⟨_,Q0⟩),(201,⟨_,Q5⟩),(202,⟨_,Q21⟩),(203,⟨_,Q0⟩),(204,⟨_,Q34⟩),(205,⟨_,Q0⟩),(206,⟨_,Q5⟩),(207,⟨_,Q0⟩),(208,⟨_,Q16⟩),(209,⟨_,Q16⟩),(210,⟨_,Q15⟩),(211,⟨_,Q19⟩),(215,⟨_,Q5⟩),(216,⟨_,Q5⟩),(221,⟨_,Q0⟩),(222,⟨_,Q0⟩),(223,⟨_,Q0⟩),(224,⟨_,Q15⟩),(225,⟨_,Q0⟩),(226,⟨_,Q0⟩),(227,⟨_,Q36⟩),(228,⟨_,Q5⟩),(229,⟨_,Q0⟩),(230,⟨_,Q0⟩),(231,⟨_,Q0⟩),(232,⟨_,Q20⟩),(233,⟨_,Q37⟩),(234,⟨_,Q0⟩),(236,⟨_,Q0⟩),(237,⟨_,Q0⟩),(240,⟨_,Q37⟩),(241,⟨_,Q5⟩),(242,⟨_,Q5⟩),(253,⟨_,Q0⟩),(260,⟨_,Q0⟩),(261,⟨_,Q0⟩),(262,⟨_,Q5⟩),(263,⟨_,Q0⟩),(264,⟨_,Q18⟩),(265,⟨_,Q21⟩),(266,⟨_,Q5⟩),(267,⟨_,Q0⟩),(268,⟨_,Q5⟩),(269,⟨_,Q0⟩),(285,⟨_,Q0⟩),(286,⟨_,Q0⟩),(296,⟨_,Q0⟩),(301,⟨_,Q0⟩),(302,⟨_,Q0⟩)]
def kj:iy:={ elem:=vJ elems,val:=vJ vals,res:=vJ Uh,ptr:=some ⟨table,table.enc⟩ }
def hints:List (Nat×Hint):=[
 (5,{ loops:=[(8,[2,4,7,8,9],[4,7,8])],rows:=[],bw:=[],aJ:=[] }),
 (6,{ loops:=[(8,[2,4,7,8,9,10,11],[4,7,8,9])],rows:=[],bw:=[],aJ:=[] }),
 (7,{ loops:=[(8,[3,5,6,7],[3,5])],rows:=[],bw:=[],aJ:=[] }),
 (8,{ loops:=[(8,[2,7,8,9],[7,8]),(12,[2,7,8,9,10,11],[7,8])],rows:=[],bw:=[],aJ:=[] }),
 (9,{ loops:=[(4,[1,3],[1]),(9,[1,3,4],[1])],rows:=[],bw:=[],aJ:=[] }),
 (11,{ loops:=[(4,[0,1,5],[])],rows:=[],bw:=[],aJ:=[] }),
 (12,{ loops:=[(3,[1,3,12,13,14],[1,3]),(9,[3,6,36,37,38],[3,6])],rows:=[3],bw:=[],aJ:=[] }),
 (13,{ loops:=[(4,[1,3,4,5],[1,3]),(9,[3,6,7],[3])],rows:=[3],bw:=[],aJ:=[] }),
 (15,{ loops:=[(4,[2,3,7],[3])],rows:=[],bw:=[],aJ:=[] }),
 (17,{ loops:=[(4,[6,7,8,19,20,21],[6,16]),(8,[6,7,8,19,20,21,29,30,31],[6,16])],rows:=[],bw:=[],aJ:=[18],bx:=[16] }),
 (18,{ loops:=[(3,[2,3,6,7,8],[3,4,6,7,9,13]),(10,[2,3,6,7,8,11,12],[3,4,6,7,9,13])],rows:=[],bw:=[],aJ:=[] }),
 (22,{ loops:=[(4,[1,3,4,5],[1,4]),(8,[1,3,4,5,6,7],[1,4])],rows:=[4,30],bw:=[8],aJ:=[] }),
 (23,{ loops:=[(5,[2,4,6,19,20,21],[2,4,6,9])],rows:=[],bw:=[],aJ:=[] }),
 (24,{ loops:=[(5,[2,3,5,7],[2,3,5]),(11,[2,3,5,7,8,9],[2,3,5,8])],rows:=[],bw:=[],aJ:=[] }),
 (25,{ loops:=[(5,[2,3,19,20,21],[2,3]),(8,[2,3,7,19,20,21,26,27,28],[2,3,7])],rows:=[],bw:=[],aJ:=[] }),
 (26,{ loops:=[(4,[1,3],[1])],rows:=[],bw:=[],aJ:=[] }),
 (29,{ loops:=[],rows:=[9],bw:=[],aJ:=[] }),
 (30,{ loops:=[(3,[0,3,4,5,13,14,15],[3,4,5,5080,5081,5082,5083,5084,5085]),(8,[0,4,5,33,34,35],[3,4,5,5080,5081,5082,5083,5084,5085]),(12,[0,4,5,10,33,34,35,43,44,45],[3,4,5,9,10,5080,5081,5082,5083,5084,5085,5160,5161,5162,5163,5164,5165,5656,5657,5658,5659,5660,5661])],rows:=[5,10,41],bw:=[],aJ:=[],jt:=[(16,[5160,5161,5162,5163,5164,5165,5656,5657,5658,5659,5660,5661]),(18,[5080,5081,5082,5083,5084,5085])] }),
 (32,{ loops:=[(3,[2,3,8,9],[2,3,5,5048,5049,5050,5051,5052,5053,5112,5113,5114,5115,5116,5117])],rows:=[3,7],bw:=[],aJ:=[],jt:=[(7,[5048,5049,5050,5051,5052,5053,5112,5113,5114,5115,5116,5117])] }),
 (33,{ loops:=[(3,[3,9,10,11],[1]),(6,[3,9,10,11,16,17,18],[1,5])],rows:=[],bw:=[],aJ:=[] }),
 (34,{ loops:=[(4,[3,4,13,14,15],[1,4]),(7,[3,4,5,13,14,15,21,22,23],[1,4,6])],rows:=[4],bw:=[9],aJ:=[],stay:=[31,42],owns:=[31] }),
 (35,{ loops:=[],rows:=[22],bw:=[],aJ:=[] }),
 (36,{ loops:=[(6,[1,3,4,5,6],[1,12,16,19]),(10,[1,3,4,5,6,7,8],[1,12,16,19])],rows:=[12,16,19,63],bw:=[],aJ:=[],use:=[78] }),
 (37,{ loops:=[(3,[0,3,4,5,6],[3,4,5,5080,5081,5082,5083,5084,5085]),(7,[0,3,4,5,7],[3,4,5,5080,5081,5082,5083,5084,5085]),(12,[0,3,4,5,7,8,9,10],[3,4,5,8,5080,5081,5082,5083,5084,5085,5128,5129,5130,5131,5132,5133,5704,5705,5706,5707,5708,5709])],rows:=[5,8,44],bw:=[],aJ:=[],jt:=[(15,[5128,5129,5130,5131,5132,5133,5704,5705,5706,5707,5708,5709]),(16,[5080,5081,5082,5083,5084,5085])] }),
 (38,{ loops:=[(4,[0,1,4,5,6],[4,5,10,5080,5081,5082,5083,5084,5085]),(10,[0,1,4,5,7,8],[4,5,10,5080,5081,5082,5083,5084,5085])],rows:=[5,34],bw:=[],aJ:=[],jt:=[(19,[5080,5081,5082,5083,5084,5085])],take:=[74,100],YR:=[(14,[1]),(39,[1]),(87,[1])],nest:=[(5064,1,54,2),(5080,1,54,2),(5160,1,54,2)] }),
 (39,{ loops:=[(7,[0,2,4,6,8,9],[2,8,5128,5129,5130,5131,5132,5133])],rows:=[8],bw:=[4,6],aJ:=[],jt:=[(12,[5128,5129,5130,5131,5132,5133])] }),
 (41,{ loops:=[(5,[2,3,6],[2,3]),(9,[2,3,6,7,8],[2,3])],rows:=[],bw:=[],aJ:=[] }),
 (42,{ loops:=[(4,[5,6,7],[])],rows:=[],bw:=[],aJ:=[] }),
 (45,{ loops:=[],rows:=[10],bw:=[],aJ:=[] }),
 (46,{ loops:=[(3,[3,4,6,16,17,18],[2,3,4,10,14,68,5160,5161,5162,5163,5164,5165,5208,5209,5210,5211,5212,5213,6104,6105,6106,6107,6108,6109]),(9,[3,4,6,9],[2,3,4,10,14,68,5160,5161,5162,5163,5164,5165,5208,5209,5210,5211,5212,5213,6104,6105,6106,6107,6108,6109]),(15,[4,6,10,72,73],[2,4,10,14,68,5160,5161,5162,5163,5164,5165,5208,5209,5210,5211,5212,5213,6104,6105,6106,6107,6108,6109])],rows:=[10,13,69],bw:=[],aJ:=[],jt:=[(19,[68,5160,5161,5162,5163,5164,5165,6104,6105,6106,6107,6108,6109])],stay:=[68],owns:=[68] }),
 (47,{ loops:=[(3,[3,4,5,8,22,23],[3,4,5,20]),(10,[3,5,8,10,33,34,35],[3,4,5,20]),(16,[3,5,8,10,13,33,34,35,60,61,62],[3,4,5,12,20])],rows:=[20],bw:=[],aJ:=[] }),
 (48,{ loops:=[(4,[0,1,5],[])],rows:=[],bw:=[],aJ:=[] }),
 (49,{ loops:=[(5,[2,3,5,20,21,22],[2,3,5]),(10,[2,3,5,20,21,22,33,34,35],[2,3,5,8])],rows:=[],bw:=[],aJ:=[] }),
 (50,{ loops:=[(2,[2,15,16,17],[3])],rows:=[],bw:=[],aJ:=[] }),
 (52,{ loops:=[(6,[1,3],[1])],rows:=[],bw:=[],aJ:=[] }),
 (53,{ loops:=[(3,[1,2,4,5,6],[2,4,7,14,5112,5113,5114,5115,5116,5117,5208,5209,5210,5211,5212,5213]),(9,[2,4,5,7,8],[2,4,7,14,5112,5113,5114,5115,5116,5117,5208,5209,5210,5211,5212,5213]),(14,[2,4,5,7,8,9,10,11],[2,4,7,9,14,56,5112,5113,5114,5115,5116,5117,5208,5209,5210,5211,5212,5213])],rows:=[7,13],bw:=[],aJ:=[],jt:=[(17,[56]),(18,[5112,5113,5114,5115,5116,5117])],owns:=[56] }),
 (56,{ loops:=[(12,[2,6,7,8,40,41,42],[2,8,5128,5129,5130,5131,5132,5133,5624,5625,5626,5627,5628,5629])],rows:=[8,39],bw:=[4,6,7],aJ:=[],jt:=[(16,[5128,5129,5130,5131,5132,5133,5624,5625,5626,5627,5628,5629])] }),
 (57,{ loops:=[],rows:=[2,5],bw:=[],aJ:=[],stay:=[7],own:=true }),
 (58,{ loops:=[(4,[0,1,12,13],[])],rows:=[],bw:=[],aJ:=[],stay:=[7,9,12] }),
 (59,{ loops:=[(2,[0,4,15,16,17],[10000,10001,10002,10003,10004,10005,10006,10007,10008,20000,20001,20002,20003,20004,20005,20006,20007,20008,20009,20010,20011]),(8,[0,4,7,15,16,17,46,47,48],[6,7,10000,10001,10002,10003,10004,10005,10006,10007,10008,20000,20001,20002,20003,20004,20005,20006,20007,20008,20009,20010,20011])],rows:=[7],bw:=[],aJ:=[],jt:=[(12,[7])] }),
 (60,{ loops:=[(3,[3,7,8],[3,7,15,5112,5113,5114,5115,5116,5117,10000,10001,10002,10003,10004,10005,10006,10007,10008,20000,20001,20002,20003,20004,20005,20006,20007,20008,20009,20010,20011])],rows:=[7,15],bw:=[],aJ:=[16] }),
 (61,{ loops:=[(3,[1,2,4,5,16,17],[2,4,5,7,14,5080,5081,5082,5083,5084,5085,5112,5113,5114,5115,5116,5117,10000,10001,10002,10003,10004,10005,10006,10007,10008,20000,20001,20002,20003,20004,20005,20006,20007,20008,20009,20010,20011])],rows:=[5,7,14],bw:=[],aJ:=[24],jt:=[(11,[5112,5113,5114,5115,5116,5117])] }),
 (62,{ loops:=[(2,[0,1,5],[])],rows:=[],bw:=[],aJ:=[] }),
 (63,{ loops:=[(8,[0,5,7,8,9],[8]),(12,[0,5,7,8,9,10,11],[8,10])],rows:=[8,10],bw:=[5,7,12],aJ:=[],jt:=[(17,[10])] }),
 (64,{ loops:=[(7,[0,5,6,7],[6]),(15,[0,5,6,8,9,10],[6]),(19,[0,5,6,8,9,10,11,12],[6,11])],rows:=[6,13],bw:=[5,8,9],aJ:=[] }),
 (65,{ loops:=[(3,[0,1,5,6],[5]),(8,[0,1,5,6,7,8],[5])],rows:=[5],bw:=[],aJ:=[] }),
 (66,{ loops:=[(8,[0,5,7,8,9],[8])],rows:=[8],bw:=[5,7],aJ:=[] }),
 (67,{ loops:=[(5,[2,6,7,8],[6,7,14,5112,5113,5114,5115,5116,5117,5160,5161,5162,5163,5164,5165])],rows:=[7,10,14],bw:=[],aJ:=[],jt:=[(8,[14,5112,5113,5114,5115,5116,5117,5160,5161,5162,5163,5164,5165])] }),
 (68,{ loops:=[(3,[2,8,9],[])],rows:=[],bw:=[8],aJ:=[] }),
 (70,{ loops:=[(3,[1,3,4],[1,10]),(8,[1,3,4,5,6],[1,10])],rows:=[10],bw:=[],aJ:=[] }),
 (71,{ loops:=[],rows:=[],bw:=[],aJ:=[],owns:=[20],use:=[20] }),
 (72,{ loops:=[(3,[2,3,4,6,7],[2,3,4,6,13,5208,5209,5210,5211,5212,5213]),(7,[2,3,4,6,8],[2,3,4,6,13,5208,5209,5210,5211,5212,5213]),(10,[2,3,4,6,9,10],[2,3,4,6,13,5208,5209,5210,5211,5212,5213]),(14,[2,3,4,6,9,10,11,12],[2,3,4,6,13,5208,5209,5210,5211,5212,5213]),(21,[3,4,6,13,14],[3,4,6,13,5208,5209,5210,5211,5212,5213])],rows:=[6,13,32],bw:=[9],aJ:=[55],jt:=[(24,[5208,5209,5210,5211,5212,5213])] }),
 (73,{ loops:=[(2,[0,2,4,18,19,20],[4,10000,10001,10002,10003,10004,10005,10006,10007,10008,20000,20001,20002,20003,20004,20005,20006,20007,20008,20009,20010,20011]),(8,[0,2,44,45,46],[4,10000,10001,10002,10003,10004,10005,10006,10007,10008,20000,20001,20002,20003,20004,20005,20006,20007,20008,20009,20010,20011])],rows:=[],bw:=[],aJ:=[] }),
 (74,{ loops:=[],rows:=[2,5],bw:=[],aJ:=[],stay:=[7],own:=true }),
 (75,{ loops:=[(2,[1,8,9,10],[2])],rows:=[],bw:=[],aJ:=[] }),
 (76,{ loops:=[(6,[1,2,18,19,20],[1,2])],rows:=[],bw:=[],aJ:=[] }),
 (78,{ loops:=[(2,[1,7,8,9],[])],rows:=[],bw:=[],aJ:=[] }),
 (79,{ loops:=[(2,[0,1,5],[]),(7,[0,1,5,6],[])],rows:=[],bw:=[],aJ:=[] }),
 (80,{ loops:=[(4,[0,4,5],[10000,10001,10002,10003,10004,10005,10006,10007,10008,20000,20001,20002,20003,20004,20005,20006,20007,20008,20009,20010,20011])],rows:=[],bw:=[4],aJ:=[],owns:=[36] }),
 (81,{ loops:=[(3,[0,3,4],[3,6]),(6,[0,3,4,5],[3,6])],rows:=[2,3,6],bw:=[],aJ:=[],Zt:=[2,3,6],own:=true }),
 (82,{ loops:=[(4,[0,1,3,4,5,6],[12,15,16,10000,10001,10002,10003,10004,10005,10006,10007,10008,20000,20001,20002,20003,20004,20005,20006,20007,20008,20009,20010,20011]),(8,[0,1,3,4,5,6,42,43,44],[12,15,16,10000,10001,10002,10003,10004,10005,10006,10007,10008,20000,20001,20002,20003,20004,20005,20006,20007,20008,20009,20010,20011])],rows:=[12,15,16],bw:=[],aJ:=[],stay:=[68],owns:=[68],use:=[72] }),
 (84,{ loops:=[(6,[4,6,20,21,22],[6])],rows:=[6],bw:=[],aJ:=[] }),
 (86,{ loops:=[(10,[0,5,6,9,34,35,36],[9]),(18,[0,5,6,9,12,14,34,35,36,53,54,55],[9,12,14])],rows:=[9,14],bw:=[5,6,7],aJ:=[77] }),
 (87,{ loops:=[(3,[1,2,5,6,12,13],[2,5,6]),(9,[2,5,6,30,31,32],[2,5,6])],rows:=[5,6],bw:=[],aJ:=[],jt:=[(8,[2])] }),
 (88,{ loops:=[(8,[0,2,3,9,10,11],[11,10000,10001,10002,10003,10004,10005,10006,10007,10008,20000,20001,20002,20003,20004,20005,20006,20007,20008,20009,20010,20011])],rows:=[11],bw:=[9,10],aJ:=[],use:=[150] }),
 (89,{ loops:=[],rows:=[],bw:=[],aJ:=[],stay:=[29] }),
 (90,{ loops:=[(1,[0,1],[10000,10001,10002,10003,10004,10005,10006,10007,10008,20000,20001,20002,20003,20004,20005,20006,20007,20008,20009,20010,20011])],rows:=[],bw:=[],aJ:=[] }),
 (91,{ loops:=[(9,[3,4,7,8,49,50,51],[8,10000,10001,10002,10003,10004,10005,10006,10007,10008,20000,20001,20002,20003,20004,20005,20006,20007,20008,20009,20010,20011])],rows:=[8],bw:=[],aJ:=[],use:=[69] }),
 (92,{ loops:=[(11,[0,3,5,7],[]),(17,[0,3,5,10],[]),(20,[0,3,5,10,11],[])],rows:=[],bw:=[3,5,12],aJ:=[] }),
 (93,{ loops:=[(3,[0,3,4],[]),(6,[0,3,4,5],[])],rows:=[],bw:=[3],aJ:=[] }),
 (94,{ loops:=[(4,[0,1,2,3,10,11,12],[])],rows:=[],bw:=[11],aJ:=[] }),
 (95,{ loops:=[(3,[0,5,6],[])],rows:=[],bw:=[5],aJ:=[] }),
 (96,{ loops:=[(12,[0,6,7],[])],rows:=[],bw:=[],aJ:=[] }),
 (97,{ loops:=[(3,[0,3,4],[])],rows:=[],bw:=[3],aJ:=[] }),
 (98,{ loops:=[(4,[1,7,8,9],[8])],rows:=[8],bw:=[7,10],aJ:=[] }),
 (99,{ loops:=[(3,[3,4],[7]),(6,[3,4,5],[7])],rows:=[7],bw:=[6],aJ:=[] }),
 (100,{ loops:=[(3,[0,1,2,3,9,10],[9]),(12,[9,11,12],[9])],rows:=[9],bw:=[],aJ:=[] }),
 (103,{ loops:=[(3,[0,1,6,7],[])],rows:=[],bw:=[6,10],aJ:=[] }),
 (104,{ loops:=[(2,[0,1,5],[])],rows:=[],bw:=[],aJ:=[] }),
 (106,{ loops:=[(3,[0,1,5,6],[9]),(7,[0,1,5,6,7,8],[7,9,5112,5113,5114,5115,5116,5117,5368,5369,5370,5371,5372,5373])],rows:=[7,9,23],bw:=[],aJ:=[],jt:=[(10,[5112,5113,5114,5115,5116,5117,5368,5369,5370,5371,5372,5373])] }),
 (107,{ loops:=[(5,[0,1,5,6,7,8],[7,20,23]),(11,[5,6,7,9],[7,20,23]),(17,[5,6,7,9,10,11,12],[7,20,23]),(23,[5,6,7,9,10,11,13,14],[7,20,23,112])],rows:=[7,23,112],bw:=[],aJ:=[],owns:=[20],use:=[158] }),
 (108,{ loops:=[(5,[7,8,9,10],[29])],rows:=[29],bw:=[],aJ:=[] }),
 (109,{ loops:=[(3,[0,3,4],[3])],rows:=[2,3],bw:=[],aJ:=[],Zt:=[2,3],own:=true }),
 (110,{ loops:=[(3,[1,2,3,8,9],[3,15]),(10,[1,2,8,12],[15])],rows:=[15],bw:=[],aJ:=[] }),
 (111,{ loops:=[(3,[0,1,2,3,8,9,10],[8,9,5144,5145,5146,5147,5148,5149]),(7,[0,1,3,8,9,11],[8,9,5144,5145,5146,5147,5148,5149]),(11,[0,1,3,8,9,11,12,13],[8,9,5144,5145,5146,5147,5148,5149])],rows:=[9],bw:=[],aJ:=[],jt:=[(17,[5144,5145,5146,5147,5148,5149])],take:=[79],YR:=[(29,[1])],nest:=[(5128,1,54,2),(5144,1,54,2)] }),
 (113,{ loops:=[(2,[0,1,5],[])],rows:=[],bw:=[],aJ:=[] }),
 (115,{ loops:=[(5,[1,5,13,14,15],[2,11])],rows:=[],bw:=[],aJ:=[] }),
 (116,{ loops:=[(8,[2,4,5,8,22,23,24],[2,4,5,6,8,13,20,5096,5097,5098,5099,5100,5101,5128,5129,5130,5131,5132,5133,5336,5337,5338,5339,5340,5341]),(12,[2,4,5,8,9,10,11,22,23,24,38,39],[2,4,5,6,8,13,20,36,5096,5097,5098,5099,5100,5101,5128,5129,5130,5131,5132,5133,5336,5337,5338,5339,5340,5341])],rows:=[6,8,20,21],bw:=[],aJ:=[14],jt:=[(16,[36]),(18,[20,5128,5129,5130,5131,5132,5133,5336,5337,5338,5339,5340,5341])],stay:=[35,36],owns:=[36] }),
 (117,{ loops:=[],rows:=[],bw:=[],aJ:=[],stay:=[20] }),
 (120,{ loops:=[(6,[4,6,24,25,26],[21,23,5352,5353,5354,5355,5356,5357])],rows:=[22],bw:=[4],aJ:=[],jt:=[(8,[8])],stay:=[38] }),
 (121,{ loops:=[(11,[0,5,20,21,22],[])],rows:=[],bw:=[],aJ:=[] }),
 (122,{ loops:=[(3,[0,4,15,16,17],[4]),(10,[0,4,7,32,33,34],[4,31]),(14,[0,4,7,8,10,32,33,34,41,42,43],[4,10,31])],rows:=[4,10,31],bw:=[],aJ:=[27] }),
 (123,{ loops:=[(5,[5,6,13,14,15],[4,5,11,5080,5081,5082,5083,5084,5085]),(10,[5,6,9],[4,5,11,5080,5081,5082,5083,5084,5085]),(13,[5,6,9,10],[4,5,11,5080,5081,5082,5083,5084,5085])],rows:=[5],bw:=[8],aJ:=[12] }),
 (124,{ loops:=[(2,[1,7,8,9],[10000,10001,10002,10003,10004,10005,10006,10007,10008,20000,20001,20002,20003,20004,20005,20006,20007,20008,20009,20010,20011])],rows:=[],bw:=[6],aJ:=[] }),
 (127,{ loops:=[(3,[3,6,7,8],[3]),(5,[3,4,5,6,7,8],[3])],rows:=[3],bw:=[],aJ:=[] }),
 (128,{ loops:=[(12,[0,1,5,39,40,41],[]),(22,[1,8,63,64,65],[8,5128,5129,5130,5131,5132,5133])],rows:=[8],bw:=[],aJ:=[] }),
 (129,{ loops:=[(5,[5,6,7,17,18,19],[7])],rows:=[7],bw:=[5],aJ:=[] }),
 (130,{ loops:=[],rows:=[],bw:=[],aJ:=[7],stay:=[6,11,13] }),
 (132,{ loops:=[(3,[3,6,7,8],[])],rows:=[],bw:=[],aJ:=[] }),
 (134,{ loops:=[(3,[3,6,7,8],[])],rows:=[],bw:=[],aJ:=[] }),
 (138,{ loops:=[],rows:=[],bw:=[],aJ:=[],stay:=[7] }),
 (139,{ loops:=[(3,[0,1,5,14,15],[12])],rows:=[12],bw:=[],aJ:=[] }),
 (140,{ loops:=[(2,[0,1,7,8],[10000,10001,10002,10003,10004,10005,10006,10007,10008,20000,20001,20002,20003,20004,20005,20006,20007,20008,20009,20010,20011])],rows:=[],bw:=[],aJ:=[],stay:=[7,16] }),
 (142,{ loops:=[(3,[0,3,4],[]),(7,[0,3,4,5,6],[]),(12,[0,3,4,5,6,7],[])],rows:=[],bw:=[3,5],aJ:=[] }),
 (143,{ loops:=[(3,[0,1,5,6],[5])],rows:=[5],bw:=[],aJ:=[] }),
 (144,{ loops:=[(2,[1,2,6],[2])],rows:=[],bw:=[],aJ:=[] }),
 (145,{ loops:=[(3,[0,1,5,6],[5])],rows:=[5],bw:=[],aJ:=[] }),
 (146,{ loops:=[(2,[0,3],[])],rows:=[18],bw:=[],aJ:=[] }),
 (147,{ loops:=[(4,[0,1,5],[])],rows:=[],bw:=[],aJ:=[] }),
 (148,{ loops:=[(4,[0,3],[])],rows:=[],bw:=[],aJ:=[] }),
 (149,{ loops:=[(2,[0,3],[])],rows:=[],bw:=[],aJ:=[] }),
 (150,{ loops:=[(2,[0,3],[]),(6,[0,3,4,5],[])],rows:=[],bw:=[4],aJ:=[] }),
 (151,{ loops:=[(3,[0,3,4],[3]),(7,[0,3,4,5,6],[3])],rows:=[3],bw:=[],aJ:=[] }),
 (152,{ loops:=[(5,[0,5,6],[15]),(8,[0,5,6,7],[15]),(14,[5,8,9],[15])],rows:=[15],bw:=[8],aJ:=[] }),
 (153,{ loops:=[(2,[0,1,5],[])],rows:=[],bw:=[],aJ:=[] }),
 (154,{ loops:=[(3,[0,4,5],[6])],rows:=[6],bw:=[],aJ:=[] }),
 (155,{ loops:=[(2,[0,1,5],[])],rows:=[],bw:=[],aJ:=[] }),
 (158,{ loops:=[(4,[0,5,6,7],[5]),(9,[0,5,6,7,8,9,10],[5])],rows:=[5],bw:=[6,8],aJ:=[] }),
 (160,{ loops:=[(3,[0,1,5,6],[5])],rows:=[5],bw:=[],aJ:=[] }),
 (161,{ loops:=[(2,[0,1,6],[])],rows:=[],bw:=[],aJ:=[] }),
 (163,{ loops:=[(3,[2,8,9],[])],rows:=[],bw:=[],aJ:=[] }),
 (164,{ loops:=[(3,[2,4,25,26,27],[25,10000,10001,10002,10003,10004,10005,10006,10007,10008,20000,20001,20002,20003,20004,20005,20006,20007,20008,20009,20010,20011])],rows:=[],bw:=[],aJ:=[],stay:=[24,25],owns:=[25] }),
 (165,{ loops:=[],rows:=[4],bw:=[],aJ:=[8],stay:=[7,10],own:=true }),
 (168,{ loops:=[(2,[0,1,2,11,12,13],[10000,10001,10002,10003,10004,10005,10006,10007,10008,20000,20001,20002,20003,20004,20005,20006,20007,20008,20009,20010,20011])],rows:=[],bw:=[],aJ:=[],stay:=[12,20,29,35,37] }),
 (169,{ loops:=[],rows:=[],bw:=[],aJ:=[],stay:=[27] }),
 (170,{ loops:=[],rows:=[],bw:=[8],aJ:=[30] }),
 (171,{ loops:=[(2,[0,1,7,8],[10000,10001,10002,10003,10004,10005,10006,10007,10008,20000,20001,20002,20003,20004,20005,20006,20007,20008,20009,20010,20011])],rows:=[],bw:=[],aJ:=[],stay:=[7,16] }),
 (173,{ loops:=[(3,[0,3,19,20,21],[15,10000,10001,10002,10003,10004,10005,10006,10007,10008,20000,20001,20002,20003,20004,20005,20006,20007,20008,20009,20010,20011]),(6,[0,3,19,20,21,26,27,28],[5,15,10000,10001,10002,10003,10004,10005,10006,10007,10008,20000,20001,20002,20003,20004,20005,20006,20007,20008,20009,20010,20011]),(14,[0,3,43,44,45],[15,10000,10001,10002,10003,10004,10005,10006,10007,10008,20000,20001,20002,20003,20004,20005,20006,20007,20008,20009,20010,20011]),(17,[0,3,9,43,44,45,50,51,52],[9,15,10000,10001,10002,10003,10004,10005,10006,10007,10008,20000,20001,20002,20003,20004,20005,20006,20007,20008,20009,20010,20011]),(29,[0,82],[82,10000,10001,10002,10003,10004,10005,10006,10007,10008,20000,20001,20002,20003,20004,20005,20006,20007,20008,20009,20010,20011])],rows:=[],bw:=[],aJ:=[65,100],stay:=[66,101],blk:=[(28,Jz,Jy)] }),
 (174,{ loops:=[(2,[1,10,11,12],[1,10000,10001,10002,10003,10004,10005,10006,10007,10008,20000,20001,20002,20003,20004,20005,20006,20007,20008,20009,20010,20011])],rows:=[],bw:=[],aJ:=[20],stay:=[18,21] }),
 (175,{ loops:=[(2,[0,15,16],[10000,10001,10002,10003,10004,10005,10006,10007,10008,20000,20001,20002,20003,20004,20005,20006,20007,20008,20009,20010,20011]),(7,[0,4,5,15,16,25,26,27],[4,10000,10001,10002,10003,10004,10005,10006,10007,10008,20000,20001,20002,20003,20004,20005,20006,20007,20008,20009,20010,20011])],rows:=[4],bw:=[8],aJ:=[],jt:=[(16,[4])],stay:=[21] }),
 (177,{ loops:=[(3,[3,9,10,11],[8])],rows:=[],bw:=[],aJ:=[] }),
 (178,{ loops:=[(3,[3,12,13,14],[]),(6,[3,5,12,13,14,19,20,21],[5])],rows:=[],bw:=[8],aJ:=[] }),
 (179,{ loops:=[(5,[3,4,5,18,19,20],[5,16,17]),(11,[3,4,5,7,18,19,20,40,41,42],[5,7,16,17]),(17,[3,4,5,10],[5,10,16,17]),(22,[3,4,5,10,71,72,73],[5,10,16,17])],rows:=[5,10,17,46,48],bw:=[],aJ:=[62],jt:=[(16,[17])] }),
 (180,{ loops:=[],rows:=[],bw:=[],aJ:=[5],stay:=[4,9,10] }),
 (181,{ loops:=[(3,[1,5,15,16,17],[14]),(9,[1,5,7,15,16,17,34,35,36],[7,14])],rows:=[14,30,40,42],bw:=[8],aJ:=[],jt:=[(14,[14])] }),
 (182,{ loops:=[(3,[0,1,6,7,8],[])],rows:=[],bw:=[],aJ:=[],stay:=[11,27,47,50] }),
 (183,{ loops:=[(3,[0,4,10,11,12],[]),(11,[7,30,31,32],[29])],rows:=[29],bw:=[],aJ:=[] }),
 (185,{ loops:=[(3,[3,11,12,13],[10]),(6,[3,5,6,11,12,13],[10])],rows:=[10],bw:=[],aJ:=[] }),
 (190,{ loops:=[(4,[5,6,13,14,15],[6])],rows:=[6],bw:=[9],aJ:=[31,33] }),
 (191,{ loops:=[(3,[3,9,10,11],[8])],rows:=[],bw:=[],aJ:=[] }),
 (192,{ loops:=[(7,[0,7,8,9],[20,24]),(10,[0,7,8,9,36,37,38],[20,24])],rows:=[24],bw:=[5],aJ:=[53] }),
 (194,{ loops:=[],rows:=[],bw:=[],aJ:=[],stay:=[7] }),
 (195,{ loops:=[],rows:=[],bw:=[],aJ:=[],stay:=[7] }),
 (196,{ loops:=[(2,[0,1,2,3,4,10,11],[10000,10001,10002,10003,10004,10005,10006,10007,10008,20000,20001,20002,20003,20004,20005,20006,20007,20008,20009,20010,20011])],rows:=[],bw:=[],aJ:=[26,33,40,57,76,98,106,129,140],stay:=[30,37,44,52,61,80,94,103,111,134,146] }),
 (201,{ loops:=[(2,[0,1,7,8],[10000,10001,10002,10003,10004,10005,10006,10007,10008,20000,20001,20002,20003,20004,20005,20006,20007,20008,20009,20010,20011])],rows:=[],bw:=[],aJ:=[],stay:=[7,16] }),
 (202,{ loops:=[(2,[0,3],[])],rows:=[],bw:=[],aJ:=[] }),
 (206,{ loops:=[(2,[0,1,5],[])],rows:=[],bw:=[],aJ:=[] }),
 (207,{ loops:=[(2,[1,2,5],[2])],rows:=[],bw:=[],aJ:=[] }),
 (208,{ loops:=[(3,[0,1,5,6],[])],rows:=[],bw:=[5],aJ:=[] }),
 (209,{ loops:=[(5,[0,5,6],[16]),(9,[0,5,6,7,8],[16]),(15,[5,9,10],[16])],rows:=[16],bw:=[7,9],aJ:=[] }),
 (210,{ loops:=[(3,[0,3,4],[3])],rows:=[3],bw:=[],aJ:=[] }),
 (211,{ loops:=[(2,[1,2,6],[2])],rows:=[],bw:=[],aJ:=[] }),
 (212,{ loops:=[],rows:=[],bw:=[],aJ:=[],stay:=[4] }),
 (213,{ loops:=[],rows:=[],bw:=[],aJ:=[7],stay:=[6,11,13] }),
 (214,{ loops:=[(1,[0,5,6,7],[10000,10001,10002,10003,10004,10005,10006,10007,10008,20000,20001,20002,20003,20004,20005,20006,20007,20008,20009,20010,20011])],rows:=[],bw:=[],aJ:=[],stay:=[6,13] }),
 (215,{ loops:=[(2,[0,1,2,11,12,13],[10000,10001,10002,10003,10004,10005,10006,10007,10008,20000,20001,20002,20003,20004,20005,20006,20007,20008,20009,20010,20011])],rows:=[],bw:=[],aJ:=[],stay:=[12,20,29,35,37] }),
 (219,{ loops:=[(1,[0,1,4],[10000])],rows:=[],bw:=[],aJ:=[] }),
 (220,{ loops:=[(11,[0,1,3,4,10,11,12,13,14,15,16],[12,10000]),(18,[0,1,3,4,10,11,12,13,17],[12,10000])],rows:=[],bw:=[],aJ:=[] }),
 (222,{ loops:=[],rows:=[],bw:=[],aJ:=[],stay:=[7] }),
 (224,{ loops:=[(3,[0,3,5,11,12,13],[3,5,10000,10001,10002,10003,10004,10005,10006,10007,10008,20000,20001,20002,20003,20004,20005,20006,20007,20008,20009,20010,20011])],rows:=[5],bw:=[],aJ:=[],jt:=[(2,[3])],stay:=[20] }),
 (225,{ loops:=[],rows:=[],bw:=[],aJ:=[6],stay:=[7] }),
 (227,{ loops:=[(4,[1,2,5,6,16,17,18],[2,5,11,10000,10001,10002,10003,10004,10005,10006,10007,10008,20000,20001,20002,20003,20004,20005,20006,20007,20008,20009,20010,20011]),(8,[1,2,5,6,16,17,18,36,37,38],[2,5,8,11,10000,10001,10002,10003,10004,10005,10006,10007,10008,20000,20001,20002,20003,20004,20005,20006,20007,20008,20009,20010,20011])],rows:=[],bw:=[],aJ:=[12],stay:=[33],keep:=[10001,10002,10003,10004] }),
 (229,{ loops:=[],rows:=[],bw:=[],aJ:=[],stay:=[7] }),
 (232,{ loops:=[(5,[0,3,4],[])],rows:=[],bw:=[],aJ:=[],stay:=[6,14,23] }),
 (233,{ loops:=[(5,[0,1,5,6],[10000,10001,10002,10003,10004,10005,10006,10007,10008,20000,20001,20002,20003,20004,20005,20006,20007,20008,20009,20010,20011])],rows:=[],bw:=[],aJ:=[],stay:=[10,18,28] }),
 (235,{ loops:=[(2,[0,1,2,3,8,9],[10000])],rows:=[],bw:=[],aJ:=[24,30,36,51,69,88,95,117,127],stay:=[27,33,39,46,54,72,85,92,99,121,132] }),
 (239,{ loops:=[],rows:=[],bw:=[4],aJ:=[] }),
 (240,{ loops:=[(4,[0,3],[10000]),(9,[0,3,4,5],[10000])],rows:=[],bw:=[4],aJ:=[],stay:=[7,12,31] }),
 (241,{ loops:=[(2,[0,1,7,8],[])],rows:=[],bw:=[],aJ:=[],stay:=[7] }),
 (242,{ loops:=[(2,[0,1,7,8],[10000,10001,10002,10003,10004,10005,10006,10007,10008,20000,20001,20002,20003,20004,20005,20006,20007,20008,20009,20010,20011])],rows:=[],bw:=[],aJ:=[],stay:=[7,16] }),
 (243,{ loops:=[(1,[0,1,2,3,8],[10000,10001,10002,10003,10004,10005,10006,10007,10008,20000,20001,20002,20003,20004,20005,20006,20007,20008,20009,20010,20011]),(4,[0,1,2,3,8,9],[10000,10001,10002,10003,10004,10005,10006,10007,10008,20000,20001,20002,20003,20004,20005,20006,20007,20008,20009,20010,20011])],rows:=[],bw:=[],aJ:=[],stay:=[32] }),
 (244,{ loops:=[(4,[0,3,8,9,10,11],[10000,10001,10002,10003,10004,10005,10006,10007,10008,20000,20001,20002,20003,20004,20005,20006,20007,20008,20009,20010,20011]),(8,[0,3,8,9,12],[10000,10001,10002,10003,10004,10005,10006,10007,10008,20000,20001,20002,20003,20004,20005,20006,20007,20008,20009,20010,20011])],rows:=[],bw:=[],aJ:=[24,54],stay:=[29,59] }),
 (245,{ loops:=[(5,[0,1,8,9,10,11],[9,10000,10001,10002,10003,10004,10005,10006,10007,10008,20000,20001,20002,20003,20004,20005,20006,20007,20008,20009,20010,20011])],rows:=[],bw:=[],aJ:=[],stay:=[21,38] }),
 (246,{ loops:=[],rows:=[],bw:=[],aJ:=[],stay:=[40,44,48,54] }),
 (247,{ loops:=[(2,[0,8,9],[10000,10001,10002,10003,10004,10005,10006,10007,10008,20000,20001,20002,20003,20004,20005,20006,20007,20008,20009,20010,20011])],rows:=[],bw:=[],aJ:=[] }),
 (248,{ loops:=[(3,[0,1,2,3,9,10],[10000,10001,10002,10003,10004,10005,10006,10007,10008,20000,20001,20002,20003,20004,20005,20006,20007,20008,20009,20010,20011]),(5,[0,1,2,3,9,10],[10000,10001,10002,10003,10004,10005,10006,10007,10008,20000,20001,20002,20003,20004,20005,20006,20007,20008,20009,20010,20011]),(14,[0,1,2,3,9,10,11],[10000,10001,10002,10003,10004,10005,10006,10007,10008,20000,20001,20002,20003,20004,20005,20006,20007,20008,20009,20010,20011]),(20,[0,1,2,3,9,10,12],[10000,10001,10002,10003,10004,10005,10006,10007,10008,20000,20001,20002,20003,20004,20005,20006,20007,20008,20009,20010,20011])],rows:=[],bw:=[],aJ:=[],stay:=[33,82,122] }),
 (249,{ loops:=[(3,[0,1,4,11,12],[10000,10001,10002,10003,10004,10005,10006,10007,10008,20000,20001,20002,20003,20004,20005,20006,20007,20008,20009,20010,20011]),(5,[0,1,4,11,12],[10000,10001,10002,10003,10004,10005,10006,10007,10008,20000,20001,20002,20003,20004,20005,20006,20007,20008,20009,20010,20011])],rows:=[],bw:=[],aJ:=[],stay:=[44,63] }),
 (250,{ loops:=[(3,[0,1,4,12,13],[10000,10001,10002,10003,10004,10005,10006,10007,10008,20000,20001,20002,20003,20004,20005,20006,20007,20008,20009,20010,20011]),(5,[0,1,4,12,13],[10000,10001,10002,10003,10004,10005,10006,10007,10008,20000,20001,20002,20003,20004,20005,20006,20007,20008,20009,20010,20011]),(13,[0,1,4,12,13],[10000,10001,10002,10003,10004,10005,10006,10007,10008,20000,20001,20002,20003,20004,20005,20006,20007,20008,20009,20010,20011]),(15,[0,1,4,12,13],[10000,10001,10002,10003,10004,10005,10006,10007,10008,20000,20001,20002,20003,20004,20005,20006,20007,20008,20009,20010,20011])],rows:=[],bw:=[],aJ:=[],stay:=[45,63,118,136] }),
 (253,{ loops:=[(4,[0,1,5],[])],rows:=[],bw:=[],aJ:=[] }),
 (255,{ loops:=[(2,[0,1,2,3,4,10,11],[10000,10001,10002,10003,10004,10005,10006,10007,10008,20000,20001,20002,20003,20004,20005,20006,20007,20008,20009,20010,20011])],rows:=[],bw:=[],aJ:=[26,33,40,57,76,98,106,129,140],stay:=[30,37,44,52,61,80,94,103,111,134,146] }),
 (260,{ loops:=[(4,[1,16],[16,10000,10001,10002,10003,10004,10005,10006,10007,10008,20000,20001,20002,20003,20004,20005,20006,20007,20008,20009,20010,20011])],rows:=[],bw:=[],aJ:=[] }),
 (262,{ loops:=[(2,[0,1,7,8],[10000,10001,10002,10003,10004,10005,10006,10007,10008,20000,20001,20002,20003,20004,20005,20006,20007,20008,20009,20010,20011])],rows:=[],bw:=[],aJ:=[],stay:=[7,16] }),
 (264,{ loops:=[],rows:=[],bw:=[4,5],aJ:=[],stay:=[10] }),
 (266,{ loops:=[(2,[1,7,8,9],[10000,10001,10002,10003,10004,10005,10006,10007,10008,20000,20001,20002,20003,20004,20005,20006,20007,20008,20009,20010,20011])],rows:=[],bw:=[],aJ:=[] }),
 (268,{ loops:=[(2,[0,1,7,8],[10000,10001,10002,10003,10004,10005,10006,10007,10008,20000,20001,20002,20003,20004,20005,20006,20007,20008,20009,20010,20011])],rows:=[],bw:=[],aJ:=[],stay:=[7,16] }),
 (270,{ loops:=[(1,[0,1,2,6],[10000]),(4,[0,1,2,6,7],[10000])],rows:=[],bw:=[],aJ:=[],stay:=[29] }),
 (271,{ loops:=[(4,[0,6,7,8,9],[10000]),(8,[0,6,7,10],[10000])],rows:=[],bw:=[],aJ:=[22,51],stay:=[26,55] }),
 (272,{ loops:=[(5,[0,1,6,7,8,9],[7,10000])],rows:=[],bw:=[],aJ:=[],stay:=[19,36] }),
 (273,{ loops:=[],rows:=[],bw:=[],aJ:=[],stay:=[37,40,43,48] }),
 (274,{ loops:=[(2,[0,6,7],[10000])],rows:=[],bw:=[],aJ:=[] }),
 (275,{ loops:=[(3,[0,1,2,7,8],[10000]),(5,[0,1,2,7,8],[10000]),(14,[0,1,2,7,8,9],[10000]),(20,[0,1,2,7,8,10],[10000])],rows:=[],bw:=[],aJ:=[],stay:=[30,77,115] }),
 (276,{ loops:=[(3,[0,1,9,10],[10000]),(5,[0,1,9,10],[10000])],rows:=[],bw:=[],aJ:=[],stay:=[41,58] }),
 (277,{ loops:=[(3,[0,1,10,11],[10000]),(5,[0,1,10,11],[10000]),(13,[0,1,10,11],[10000]),(15,[0,1,10,11],[10000])],rows:=[],bw:=[],aJ:=[],stay:=[42,58,111,127] }),
 (280,{ loops:=[(1,[0,2,3,4,10],[10000,10001,10002,10003,10004,10005,10006,10007,10008,20000,20001,20002,20003,20004,20005,20006,20007,20008,20009,20010,20011])],rows:=[],bw:=[],aJ:=[],stay:=[38,56] }),
 (281,{ loops:=[],rows:=[],bw:=[],aJ:=[],stay:=[5] }),
 (283,{ loops:=[],rows:=[],bw:=[],aJ:=[],stay:=[17] }),
 (284,{ loops:=[],rows:=[],bw:=[],aJ:=[],stay:=[19,28,37] }),
 (287,{ loops:=[(1,[0,1,2,3,8],[10000,10001,10002,10003,10004,10005,10006,10007,10008,20000,20001,20002,20003,20004,20005,20006,20007,20008,20009,20010,20011]),(4,[0,1,2,3,8,9],[10000,10001,10002,10003,10004,10005,10006,10007,10008,20000,20001,20002,20003,20004,20005,20006,20007,20008,20009,20010,20011])],rows:=[],bw:=[],aJ:=[],stay:=[32] }),
 (288,{ loops:=[(4,[0,3,8,9,10,11],[10000,10001,10002,10003,10004,10005,10006,10007,10008,20000,20001,20002,20003,20004,20005,20006,20007,20008,20009,20010,20011]),(8,[0,3,8,9,12],[10000,10001,10002,10003,10004,10005,10006,10007,10008,20000,20001,20002,20003,20004,20005,20006,20007,20008,20009,20010,20011])],rows:=[],bw:=[],aJ:=[24,54],stay:=[29,59] }),
 (289,{ loops:=[(5,[0,1,8,9,10,11],[9,10000,10001,10002,10003,10004,10005,10006,10007,10008,20000,20001,20002,20003,20004,20005,20006,20007,20008,20009,20010,20011])],rows:=[],bw:=[],aJ:=[],stay:=[21,38] }),
 (290,{ loops:=[],rows:=[],bw:=[],aJ:=[],stay:=[40,44,48,54] }),
 (291,{ loops:=[(2,[0,8,9],[10000,10001,10002,10003,10004,10005,10006,10007,10008,20000,20001,20002,20003,20004,20005,20006,20007,20008,20009,20010,20011])],rows:=[],bw:=[],aJ:=[] }),
 (292,{ loops:=[(3,[0,1,2,3,9,10],[10000,10001,10002,10003,10004,10005,10006,10007,10008,20000,20001,20002,20003,20004,20005,20006,20007,20008,20009,20010,20011]),(5,[0,1,2,3,9,10],[10000,10001,10002,10003,10004,10005,10006,10007,10008,20000,20001,20002,20003,20004,20005,20006,20007,20008,20009,20010,20011]),(14,[0,1,2,3,9,10,11],[10000,10001,10002,10003,10004,10005,10006,10007,10008,20000,20001,20002,20003,20004,20005,20006,20007,20008,20009,20010,20011]),(20,[0,1,2,3,9,10,12],[10000,10001,10002,10003,10004,10005,10006,10007,10008,20000,20001,20002,20003,20004,20005,20006,20007,20008,20009,20010,20011])],rows:=[],bw:=[],aJ:=[],stay:=[33,82,122] }),
 (293,{ loops:=[(3,[0,1,4,11,12],[10000,10001,10002,10003,10004,10005,10006,10007,10008,20000,20001,20002,20003,20004,20005,20006,20007,20008,20009,20010,20011]),(5,[0,1,4,11,12],[10000,10001,10002,10003,10004,10005,10006,10007,10008,20000,20001,20002,20003,20004,20005,20006,20007,20008,20009,20010,20011])],rows:=[],bw:=[],aJ:=[],stay:=[44,63] }),
 (294,{ loops:=[(3,[0,1,4,12,13],[10000,10001,10002,10003,10004,10005,10006,10007,10008,20000,20001,20002,20003,20004,20005,20006,20007,20008,20009,20010,20011]),(5,[0,1,4,12,13],[10000,10001,10002,10003,10004,10005,10006,10007,10008,20000,20001,20002,20003,20004,20005,20006,20007,20008,20009,20010,20011]),(13,[0,1,4,12,13],[10000,10001,10002,10003,10004,10005,10006,10007,10008,20000,20001,20002,20003,20004,20005,20006,20007,20008,20009,20010,20011]),(15,[0,1,4,12,13],[10000,10001,10002,10003,10004,10005,10006,10007,10008,20000,20001,20002,20003,20004,20005,20006,20007,20008,20009,20010,20011])],rows:=[],bw:=[],aJ:=[],stay:=[45,63,118,136] }),
 (297,{ loops:=[(1,[0,2,3,8],[10000])],rows:=[],bw:=[],aJ:=[],stay:=[35,51] }),
 (298,{ loops:=[],rows:=[],bw:=[],aJ:=[],stay:=[14] }),
 (299,{ loops:=[],rows:=[],bw:=[],aJ:=[],stay:=[16,24,32] }),
 (300,{ loops:=[],rows:=[],bw:=[],aJ:=[],stay:=[21] }),
 (303,{ loops:=[(1,[0,2,3,4,10],[10000,10001,10002,10003,10004,10005,10006,10007,10008,20000,20001,20002,20003,20004,20005,20006,20007,20008,20009,20010,20011])],rows:=[],bw:=[],aJ:=[],stay:=[38,56] }),
 (304,{ loops:=[],rows:=[],bw:=[],aJ:=[],stay:=[17] }),
 (305,{ loops:=[],rows:=[],bw:=[],aJ:=[],stay:=[19,28,37] }),
 (306,{ loops:=[],rows:=[],bw:=[],aJ:=[],stay:=[18] }),
 (307,{ loops:=[],rows:=[],bw:=[],aJ:=[],stay:=[21] })]
def H (f:Nat):Hint:=(find hints f).getD {}
def E4 (sep:List UInt8):List (List UInt8)→List UInt8
 |[]=>[]
 |[x]=>x
 |x::xs=>x++sep++E4 sep xs
def strs:List (List AV)→Option (List (List UInt8))
 |[]=>some []
 |[.str s]::l=>(strs l).map (s:: ·)
 |_=>none
def tz:Nat→Nat→Nat
 |0,_=>0
 |k+1,n=>bif Nat.beq (n % 2) 1 then 0 else 1+tz k (n / 2)
def Nz:List (List AV)→Option Nat
 |[]=>some 0
 |[[.int .u64 (.ofNat m)]]=>bif Nat.blt 0 m&&Nat.blt m 18446744073709551616 then some m else none
 |_=>none
def dZ:Nat→Nat→Nat
 |0,_=>0
 |k+1,n=>n % 2+dZ k (n / 2)
abbrev qX:=List UInt8×Nat
def Cs:List (List AV)→Option (List qX)
 |[]=>some []
 |[.str s, .aW 1 ws]::l=>match Nz ws,Cs l with
  |some w,some r=>some ((s,w)::r)
  |_,_=>none
 |_=>none
def KY (p q:qX):Bool:=Nat.blt (dZ 64 q.2) (dZ 64 p.2)||(Nat.beq (dZ 64 p.2) (dZ 64 q.2)&&Op.bytesLess p.1 q.1)
def BB:List qX→Bool
 |[]=>true
 |x::l=>l.all (fun y=>KY x y||KY y x)&&BB l
def qX.enc (p:qX):List AV:=[.str p.1, .aW 1 (bif Nat.beq p.2 0 then [] else [[.int .u64 (p.2:Int)]])]
def qY:List (List AV)→Option (List (Int×Int))
 |[]=>some []
 |[.int .i64 f, .int .i64 t]::l=>(qY l).map ((f,t):: ·)
 |_=>none
def Ju (p:Int×Int):List AV:=[.int .i64 p.1, .int .i64 p.2]
abbrev ud:=Int×List (Int×Int)
def qR:List (List AV)→Option (List ud)
 |[]=>some []
 |[.int .i64 t, .aW 2 av]::l=>match qY av,qR l with
  |some a,some r=>some ((t,a)::r)
  |_,_=>none
 |_=>none
def WS (p q:Int×Int):Bool:=decide (p.1<q.1)
def B4:List (Int×Int)→Bool
 |[]=>true
 |x::l=>l.all (fun y=>WS x y||WS y x)&&B4 l
def Ba (p:List Int):List (Int×Int)→List Bool→List Int→List (List Int)→Option (List Bool×List Int×List (List Int))
 |[],seen,ns,ps=>some (seen,ns,ps)
 |(f,t)::l,seen,ns,ps=>match seen[t.toNat]? with
  |some b=>if t<0 then none else bif b then Ba p l seen ns ps else Ba p l (seen.set t.toNat true) (ns++[t]) (ps++[p++[f]])
  |none=>none
def Wp (g:List ud):Nat→Nat→List Bool→List Int→List (List Int)→Option (List Int×List (List Int))
 |0,_,_,_,_=>none
 |k+1,i,seen,ns,ps=>match ns[i]?,ps[i]? with
  |some n,some p=>match g[n.toNat]? with
   |some x=>match Ba p x.2 seen ns ps with
    |some (seen',ns',ps')=>Wp g k (i+1) seen' ns' ps'
    |none=>none
   |none=>none
  |_,_=>some (ns,ps)
def x8:List (List Int)→List Int→List (List Int)→List (List Int)
 |out,n::ns,p::ps=>x8 (out.set n.toNat p) ns ps
 |out,_,_=>out
def sI (g:List ud):Option (List (List Int)):=(Wp g (g.length+1) 0 ((List.replicate g.length false).set 0 true) [0] [[]]).map fun r=>x8 (List.replicate g.length []) r.1 r.2
def Jn (n:Nat):List UInt8:=bif Nat.blt n 10 then [UInt8.ofNat (48+n)] else [UInt8.ofNat (48+n / 10),UInt8.ofNat (48+n % 10)]
def OL:cL:=fun f args bT=>match f,args,bT with
 |128,[.pv (.aW 1 xs), .pv (.str sep)],[]=>match strs xs with
  |some l=>bif Nat.ble (E4 sep l).length 140737488355328&&Nat.ble l.length 140737488355328 then some (.str (E4 sep l),[]) else none
  |none=>none
 |186,[.pv (.int .u64 n)],[]=>match n with
  | .ofNat m=>bif Nat.blt m 18446744073709551616 then some (.int .i64 (tz 64 m:Nat),[]) else none
  | .negSucc _=>none
 |180,[.row 10000],[(10000, .row 9 1 xs)]=>match strs xs with
  |some l=>bif Nat.ble l.length 1073741824 then some (.dI [],[(10000, .row 9 1 ((gZ Op.bytesLess l).map eX))]) else none
  |none=>none
 |57,[.pv (.aW 1 xs)],[]=>bif Nat.ble (xs.length *8) 140737488355328 then some (.dI [.dI [.self 3, .aW 1 xs]],[]) else none
 |_,_,_=>none
def dg:cL:=fun f args bT=>match f,args,bT with
 |130,[.row 10000, .pv (.fn 131 [])],[(10000, .row 112 2 xs)]=>match Cs xs with
  |some l=>bif BB l&&Nat.ble l.length 1073741824 then some (.dI [],[(10000, .row 112 2 ((gZ KY l).map qX.enc))]) else none
  |none=>none
 |74,[.pv (.aW 2 xs)],[]=>bif Nat.ble (xs.length *32) 140737488355328 then some (.dI [.dI [.self 52, .aW 2 xs]],[]) else none
 |165,[.pv (.fn 214 [.ref [.aW 2 xs]]), .pv (.fn 167 [])],[]=>match qY xs with
  |some l=>bif B4 l&&Nat.ble l.length 1073741824 then some (.dI [.dI [.self 54, .aW 2 ((gZ WS l).map Ju)]],[]) else none
  |none=>none
 |83,[.pv (.int .i64 n)],[]=>match n with
  | .ofNat m=>bif Nat.blt m 100 then some (.str (Jn m),[]) else none
  | .negSucc _=>none
 |29,[.pv (.agg [.aW 2 xs])],[]=>match qR xs with
  |some g=>bif Nat.blt 0 g.length&&Nat.ble g.length 1073741824 then (sI g).map fun ps=>(.aW 1 (ps.map fun p=>[.aW 1 (p.map fun n=>[.int .i64 n])]),[]) else none
  |none=>none
 |f,args,bT=>OL f args bT
noncomputable abbrev Rn:cL:=run P H dg
instance:EP Node Node.enc:=⟨⟩
instance:EP FSt FSt.enc:=⟨⟩
instance:EP aC aC.enc:=⟨⟩
instance:EP aX aX.enc:=⟨⟩
instance:EP au au.enc:=⟨⟩
instance:EP bg bg.enc:=⟨⟩
instance:EP aF aF.enc:=⟨⟩
instance:EP aK aK.enc:=⟨⟩
instance:EP bR bR.enc:=⟨⟩
instance:EP aM aM.enc:=⟨⟩
instance:EP aT aT.enc:=⟨⟩
instance:EP result result.enc:=⟨⟩
instance:EP (List aF) (bD 2 aF.enc):=⟨⟩
instance:EP (List aM) (bD 2 aM.enc):=⟨⟩
theorem jb {T:Type} {E:T→Out} [cQ E] {raw:Option Out} {t:Option T} [i:Im E t raw] {r:T} {f:Nat} {args:List SV} {bT:List (Nat×Ob)} (ht:t=some r) (hk:NM P kj H dg f args bT=raw) (hp:dg f args bT=none):dec E (run P H dg f args bT)=some r:=
 lN ht i.p hk fun h=>je (C:=kj) hp h
theorem jh {T:Type} {E:T→Out} [cQ E] {raw:Option Out} {t:Option T} [i:Im E t raw] {r:T} {f key:Nat} {names:List Nat} {env:List (Nat×SV)} {ob:List (Nat×Ob)} (ht:t=some r) (hk:Hw P kj H dg f key names env ob=raw):dec E (nR P kj H dg f key names env ob)=some r:=
 lN ht i.p hk fun h=>mN h
abbrev pT (l:List aC):SV:= .pv (.aW 3 (List.map aC.enc l))
abbrev pC (l:List bR):SV:= .pv (.aW 2 (List.map bR.enc l))
abbrev pF (l:List aK):SV:= .pv (.aW 2 (List.map aK.enc l))
abbrev pP (l:List aM):SV:= .pv (.aW 2 (List.map aM.enc l))
abbrev pS (l:List (List UInt8)):SV:= .pv (.aW 1 (List.map eX l))
abbrev pN (l:List Int):SV:= .pv (.aW 1 (List.map (aD .i64) l))
abbrev pU (l:List Int):SV:= .pv (.aW 1 (List.map (aD .u64) l))
abbrev pI (x:Int):SV:= .pv (.int .i64 x)
abbrev oS (l:List (List UInt8)):Ob:= .row 9 1 (List.map eX l)
abbrev oI (l:List Int):Ob:= .row 3 1 (List.map (aD .i64) l)
abbrev oA (l:List (List aM)):Ob:= .row 114 1 (List.map (bD 2 aM.enc) l)
abbrev oM (k e:TypeId) (K V:mF) (x:List (K.T×V.T)):Ob:= .mp k e (bW K V x).1 (bW K V x).2
abbrev sB:Type:=List UInt8
theorem lb {T:Type} {E:T→Out} [cQ E] {raw:Option Out} {t:Option T} {r:T} {f:Nat} {args:List SV} {bT:List (Nat×Ob)} (ht:t=some r) (hi:fD E raw t) (hk:NM P kj H dg f args bT=raw) (hp:dg f args bT=none):dec E (run P H dg f args bT)=some r:=
 lN ht hi hk (fun h=>je (C:=kj) hp h)
theorem lh {T:Type} {E:T→Out} [cQ E] {raw:Option Out} {t:Option T} {r:T} {f key:Nat} {names:List Nat} {env:List (Nat×SV)} {ob:List (Nat×Ob)} (ht:t=some r) (hi:fD E raw t) (hk:Hw P kj H dg f key names env ob=raw):dec E (nR P kj H dg f key names env ob)=some r:=
 lN ht hi hk (fun h=>mN h)
noncomputable abbrev hT:=nR P kj H dg
abbrev oB (x:List aC) (y:List bR) (a b c d:Nat):Ob:= .box 171 [pT x,pC y, .row a, .row b, .row c, .row d]
end Go.Proofs.YthppjmoncapdfaaGreatDoor.cl
