/- The bodies of the plain functions and loops, by program (dec. -/
import Derived.Test.YthppjmoncapdfaaGreatDoorClD
set_option linter.all false
set_option maxRecDepth 100000
open Go.IntKind (wrap)
open Int (toNat)
open List (length)
namespace Go.Proofs.YthppjmoncapdfaaGreatDoor.cl
open Go Go.AM
set_option synthInstance.maxSize 100000
set_option synthInstance.maxHeartbeats 400000
set_option maxHeartbeats 1000000
def e67a {s0 pg fM fB gX iV lY lZ}:Lt (TU s0 pg fM fB gX iV lY lZ) ((Oy s0 pg fM fB gX iV lY lZ).bind λl=>some (decide (l>=0))):=jb
def e367 {cn ec nT gj gZ nU}:Lt (f367 cn ec nT gj gZ nU) (FH cn (cn.length:Int) 0 ([]:List ((List UInt8)×Bool)) cn ec nT gj gZ nU):=jb
def Pa {U2 v20 v21 vQ aY bh cM bP bz cE}:Lt (FH U2 v20 v21 vQ aY bh cM bP bz cE) (bif v21<v20 then(bF U2 v21 λl=>FI U2 v20 v21 l.fO (l.fO.length:Int) 0 l vQ aY bh cM bP bz cE) else(bif((vQ.length:Int))>64 then(some (7,cM,bP,bz,cE)) else(A4 aY (aY.length:Int) 0 vQ aY bh cM bP bz cE))):=jh
def Pb {U2 v20 v21 v26 v27 v28 o5 vQ aY bh cM bP bz cE}:Lt (FI U2 v20 v21 v26 v27 v28 o5 vQ aY bh cM bP bz cE) (bif v28<v27 then(bF v26 v28 λq=>uD (yJ vQ q.aV true) λl=>FI U2 v20 v21 v26 v27 (wrap .i64 (v28+1)) o5 l aY bh cM bP bz cE) else(FH U2 v20 (wrap .i64 (v21+1)) vQ aY bh cM bP bz cE)):=jh
def LH {QD v44 v45 vQ aY bh cM bP bz cE}:Lt (A4 QD v44 v45 vQ aY bh cM bP bz cE) (bif v45<v44 then(bF QD v45 λl=>A5 QD v44 v45 l.fO (l.fO.length:Int) 0 l vQ aY bh cM bP bz cE) else(check (bP.length+vQ.length<=1073741824) (some (0,cM,(jB Op.bytesLess (bP++List.map Prod.fst vQ)),bz,cE)))):=λh=>mN (E:=(uE aY bh)) h (Ic (Ig cZ.enc λl=>Im.p) (fk (p:=Jl (List.map iP bP) (cw V9 V4 vQ).1=true) (N3 V4) (Eb (c:=((.int .i64 0),[(10000,(.box 171 [(.pv (.c4 3 (List.map cZ.enc aY))),(.pv (.c4 2 (List.map gz.enc bh))),(.row 10001),(.row 20002),(.row 20003),(.row 20004)])),(10001,(.mp 9 3 (cw V9 V3 cM).1 (cw V9 V3 cM).2)),(20002,(.row 9 1 (Rm (List.map iP bP) (cw V9 V4 vQ).1))),(20003,(.row 3 1 (List.map (bU .i64) bz))),(20004,(.row 114 1 (List.map (gI 2 dB.enc) cE)))])) (by simp only[N5,aK,cW,aT,cL,gI,dM.enc];rfl)))) (by kernel_rfl) (λh=>kO h)
def LI {QD v44 v45 v50 v51 U4 o9 vQ aY bh cM bP bz cE}:Lt (A5 QD v44 v45 v50 v51 U4 o9 vQ aY bh cM bP bz cE) (bif U4<v51 then(bF v50 U4 λl=>(f380 l.aV).bind λq=>bif !q then(some (1,cM,bP,bz,cE)) else(check (0<=U4/\U4<=(length o9.fO:Nat)) (Option.bind (f381 ((o9.fO.take (toNat U4)).drop 0) l) λw=>bif w then(some (4,cM,bP,bz,cE)) else(u6 cM l.Value (λz=>A5 QD v44 v45 v50 v51 (wrap .i64 (U4+1)) o9 vQ aY bh cM bP bz cE) (some (5,cM,bP,bz,cE)))))) else(A4 QD v44 (wrap .i64 (v45+1)) vQ aY bh cM bP bz cE)):=jh
def e368 {cn ec nT gj gZ nU}:Lt (f368 cn ec nT gj gZ nU) (FJ (gj.length:Int) 0 cn ec nT gj gZ nU):=jb
def Pc {v11 v12 aY bh cM bP bz cE}:Lt (FJ v11 v12 aY bh cM bP bz cE) (bif v12<v11 then(check (0<=v12/\toNat v12<bP.length) (fm bP (toNat v12) λz=>(f376 z aY bh cM bP bz cE).bind λq=>(Ox q q aY bh cM bP bz cE).bind λw=>bif w<0 then(some (10,cM,bP,bz,cE)) else(bF q w λl=>check ((bz.length+length [l]) *8<=140737488355328/\bz.length+length [l]<=4611686018427387904) (FJ v11 (wrap .i64 (v12+1)) aY bh cM bP (bz++[l]) cE)))) else(some (0,cM,bP,bz,cE))):=jh
def e369 {cn ec nT gj gZ nU}:Lt (f369 cn ec nT gj gZ nU) (KX (ec.length:Int) 0 cn ec nT gj gZ nU):=jb
def Pd {vE vY aY bh cM bP bz cE}:Lt (KX vE vY aY bh cM bP bz cE) (bif vY<vE then((f377 vY aY bh cM bP bz cE).bind λl=>Cw l vE vY (bP.length:Int) 0 ([]:List dB) aY bh cM bP bz cE) else(some (0,cM,bP,bz,cE))):=jh
def Pe {Eu vE vY v26 v27 o4 aY bh cM bP bz cE}:Lt (Cw Eu vE vY v26 v27 o4 aY bh cM bP bz cE) (bif v27<v26 then(check (0<=v27/\toNat v27<bP.length) (fm bP (toNat v27) λq=>u6 Eu q (λw=>(f18 bh w).bind λl=>bif l<0 then(some (11,cM,bP,bz,cE)) else(check ((o4.length+length [(dB.mk v27 l)]) *16<=140737488355328/\o4.length+length [(dB.mk v27 l)]<=4611686018427387904) (Cw Eu vE vY v26 (wrap .i64 (v27+1)) (o4++[(dB.mk v27 l)]) aY bh cM bP bz cE))) (Cw Eu vE vY v26 (wrap .i64 (v27+1)) o4 aY bh cM bP bz cE))) else(check ((cE.length+length ([o4]:List (List dB))) *24<=140737488355328/\cE.length+length ([o4]:List (List dB))<=4611686018427387904) (KX vE (wrap .i64 (vY+1)) aY bh cM bP bz (cE++([o4]:List (List dB)))))):=jh
def VO {s0 cn fM fB gX iV lY lZ}:Lt (Ox s0 cn fM fB gX iV lY lZ) (FD s0 (s0.length:Int) 0 cn fM fB gX iV lY lZ):=jb
def VP {s0 pg fM fB gX iV lY lZ}:Lt (Oy s0 pg fM fB gX iV lY lZ) (FE s0 (s0.length:Int) 0 pg fM fB gX iV lY lZ):=jb
def RO {s0 v7 v8 aY eC eE iS iT xo xq}:Lt (FD s0 v7 v8 aY eC eE iS iT xo xq) (bif v8<v7 then(bF s0 v8 λl=>(f382 l aY eC eE iS iT xo xq).bind λq=>bif q then some v8 else(FD s0 v7 (wrap .i64 (v8+1)) aY eC eE iS iT xo xq)) else(some (-1))):=jh
def LF {s0 v7 v8 B4 eC eE iS iT xo xq}:Lt (FE s0 v7 v8 B4 eC eE iS iT xo xq) (bif v8<v7 then(bF s0 v8 λl=>(f390 l B4 eC eE iS iT xo xq).bind λq=>bif q then some v8 else(FE s0 v7 (wrap .i64 (v8+1)) B4 eC eE iS iT xo xq)) else(some (-1))):=jh
def e381 {s0 vG}:Lt (f381 s0 vG) ((f384 s0 vG).bind λl=>some (decide (l>=0))):=jb
def VQ {s0 EB}:Lt (Oz s0 EB) ((OA s0 EB).bind λl=>some (decide (l>=0))):=jb
def e388 {y0 vG}:Lt (f388 y0 vG) (some (y0.aV==vG.aV)):=jb
def e376 {yh cn ec nT CO gX iV}:Lt (f376 yh cn ec nT CO gX iV) (Cx yh cn (cn.length:Int) 0 ([]:List Int) cn ec nT CO gX iV):=jb
def Pf {Hh v11 v12 yW o5 aY bh cM nx iS iT}:Lt (Cx Hh v11 v12 yW o5 aY bh cM nx iS iT) (bif yW<v12 then(bF v11 yW λq=>(Oz q.fO Hh).bind λw=>bif w then(u6 cM q.Name (λl=>check ((o5.length+length [l]) *8<=140737488355328/\o5.length+length [l]<=4611686018427387904) (Cx Hh v11 v12 (wrap .i64 (yW+1)) (o5++[l]) aY bh cM nx iS iT)) (check ((o5.length+length [0]) *8<=140737488355328/\o5.length+length [0]<=4611686018427387904) (Cx Hh v11 v12 (wrap .i64 (yW+1)) (o5++[0]) aY bh cM nx iS iT))) else(Cx Hh v11 v12 (wrap .i64 (yW+1)) o5 aY bh cM nx iS iT)) else(some o5)):=jh
def e382 {a0 cn fM fB gX iV lY lZ}:Lt (f382 a0 cn fM fB gX iV lY lZ) ((TU cn a0 fM fB gX iV lY lZ).bind λl=>some (!l)):=jb
def e390 {b0 pg fM fB gX iV lY lZ}:Lt (f390 b0 pg fM fB gX iV lY lZ) ((f24 fB pg b0).bind λl=>some (!l)):=jb
def e377 {i1 cn ec nT CO gX iV}:Lt (f377 i1 cn ec nT CO gX iV) (FK i1 cn (cn.length:Int) 0 ([]:List ((List UInt8)×(List Int))) cn ec nT CO gX iV):=jb
def Pg {i1 vY v17 L9 ny aY bh cM nx iS iT}:Lt (FK i1 vY v17 L9 ny aY bh cM nx iS iT) (bif L9<v17 then(bF vY L9 λl=>bF bh i1 λq=>(f383 l.Name aY bh cM nx iS iT).bind λw=>(f63 q.Code w).bind λz=>bif z then(FM i1 vY v17 L9 l.fO (l.fO.length:Int) 0 l ny aY bh cM nx iS iT) else(FK i1 vY v17 (wrap .i64 (L9+1)) ny aY bh cM nx iS iT)) else(some ny)):=jh
def Ph {i1 vY v17 L9 v36 v37 v38 o8 ny aY bh cM nx iS iT}:Lt (FM i1 vY v17 L9 v36 v37 v38 o8 ny aY bh cM nx iS iT) (bif v38<v37 then(bF v36 v38 λq=>GB (f385 q aY bh ny cM nx iS iT) λw l=>FM i1 vY v17 L9 v36 v37 (wrap .i64 (v38+1)) o8 l aY bh cM nx iS iT) else(FK i1 vY v17 (wrap .i64 (L9+1)) ny aY bh cM nx iS iT)):=jh
def e384 {s0 vG}:Lt (f384 s0 vG) (FN s0 (s0.length:Int) 0 vG):=jb
def VR {s0 EB}:Lt (OA s0 EB) (A6 s0 EB (s0.length:Int) 0):=jb
def Pj {s0 v7 v8 Kx}:Lt (FN s0 v7 v8 Kx) (bif v8<v7 then(bF s0 v8 λl=>(f388 l Kx).bind λq=>bif q then some v8 else(FN s0 v7 (wrap .i64 (v8+1)) Kx)) else(some (-1))):=jh
def LJ {s0 EB v7 v8}:Lt (A6 s0 EB v7 v8) (bif v8<v7 then(bF s0 v8 λl=>(f389 l EB).bind λq=>bif q then some v8 else(A6 s0 EB v7 (wrap .i64 (v8+1)))) else(some (-1))):=jh
def e389 {f0 a1}:Lt (f389 f0 a1) (some (f0.aV==a1)):=jb
def e385 {f0 fM fB gX iV lY lZ QF}:Lt (f385 f0 fM fB gX iV lY lZ QF) ((f383 f0.Value fM fB iV lY lZ QF).bind λl=>u6 gX f0.aV (λz=>(f29 z l).bind λB=>uD (yJ gX f0.aV B) λq=>some ((),q)) (uD (yJ gX f0.aV l) λw=>some ((),w))):=jb
