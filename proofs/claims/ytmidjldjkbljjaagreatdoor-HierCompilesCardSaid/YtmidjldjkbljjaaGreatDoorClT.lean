/- The types and codecs of the program, by program (decomp4.py). -/
import Derived.Test.YtmidjldjkbljjaaGreatDoorProg
import Derived.Test.YtmidjldjkbljjaaGreatDoorAmL
import Derived.Test.YtmidjldjkbljjaaGreatDoorAmP
import Derived.KernelRfl
set_option linter.unusedVariables false
set_option linter.unusedSimpArgs false
set_option maxRecDepth 100000
namespace Go.Proofs.YtmidjldjkbljjaaGreatDoor.cl
open Go Go.AM
noncomputable abbrev P:Program:=Tryz.prog
def strOf:AV→List UInt8
 | .str s=>s
 |_=>[]
def isStr:AV→Bool
 | .str _=>true
 |_=>false
def tj:List AV→List UInt8
 |[a]=>strOf a
 |_=>[]
def zG:List AV→Bool
 |[a]=>isStr a
 |_=>false
def J9 (xs:List (List AV)) (ks:List AV):Bool:=xs.all zG&&ks.all isStr&&Nat.ble (xs.length+ks.length) 1073741824
def T3 (xs:List (List AV)) (ks:List AV):List (List AV):=(eA Op.bytesLess (xs.map tj++ks.map strOf)).map aA
def HO (st:St):Bool:=match st.env 0,st.env 3,st.ob 10000 with
 |some (.ptr 10000 0),some (.row 15),some (.box 101 [.pv _, .pv _, .row 10001, .row 20002, .row 20003, .row 20004])=>
  match st.ob 15,st.ob 20002,st.ob 10001,st.ob 20003,st.ob 20004 with
  |some (.mp 9 4 ks _),some (.row 9 1 xs),some (.mp 9 3 _ _),some (.row 3 1 _),some (.row 35 1 _)=>J9 xs ks
  |_,_,_,_,_=>false
 |_,_,_=>false
def HN (st:St):Nat×St:=match st.ob 15,st.ob 20002,st.ob 10000,st.ob 10001,st.ob 20003,st.ob 20004 with
 |some (.mp _ _ ks _),some (.row _ _ xs),some o0,some o1,some o3,some o4=>(1,{ env:=find [(2, .pv (.int .i64 0))],ob:=find [(10000,o0),(10001,o1),(20002, .row 9 1 (T3 xs ks)),(20003,o3),(20004,o4)] })
 |_,_,_,_,_,_=>(1,st)
theorem Qa (V:iE) {X:List (List UInt8)} {Y:List (List UInt8×V.T)} (h:X.length+Y.length≤1073741824):J9 (X.map aA) (aO ⟨List UInt8,AV.str⟩ V Y).1=true:=by
 unfold J9;simp only [Bool.and_eq_true,List.all_eq_true,List.mem_map];refine ⟨⟨?_,?_⟩,?_⟩
 ·rintro _ ⟨x,_,rfl⟩;rfl
 ·intro a ha
  simp only [aO,List.mem_map] at ha;obtain ⟨p,_,rfl⟩:=ha;rfl
 ·rw [Nat.ble_eq];simpa [aO] using h
theorem Qc {V:iE} (X:List (List UInt8)) (Y:List (List UInt8×V.T)):T3 (X.map aA) (aO ⟨List UInt8,AV.str⟩ V Y).1=(eA Op.bytesLess (X++Y.map Prod.fst)).map aA:=by
 unfold T3;have e1:(X.map aA).map tj=X:=by
  rw [List.map_map];exact (List.map_congr_left (fun x _=>rfl)).trans (List.map_id X)
 have e2:(aO ⟨List UInt8,AV.str⟩ V Y).1.map strOf=Y.map Prod.fst:=by
  simp only [aO,List.map_map];exact List.map_congr_left (fun x _=>rfl)
 rw [e1,e2]
abbrev V3:iE:=⟨Int,AV.int .i64⟩
instance:c6 V3.enc:=⟨fun a b h=>by
 injection h⟩
instance:xT V3:=⟨fun a b=>⟨(inferInstance:DecidableEq (Int)) a b,by
 simp only [nQ,if_true]
 first|rfl|(congr 1;first|rfl|(rw [Bool.eq_iff_iff];simp))⟩⟩
abbrev V4:iE:=⟨Bool,AV.bool⟩
instance:c6 V4.enc:=⟨fun a b h=>by
 injection h⟩
instance:xT V4:=⟨fun a b=>⟨(inferInstance:DecidableEq (Bool)) a b,by
 simp only [nQ,if_true]
 first|rfl|(congr 1;first|rfl|(rw [Bool.eq_iff_iff];simp))⟩⟩
abbrev V9:iE:=⟨List UInt8,AV.str⟩
instance:c6 V9.enc:=⟨fun a b h=>by
 injection h⟩
instance:xT V9:=⟨fun a b=>⟨(inferInstance:DecidableEq (List UInt8)) a b,by
 simp only [nQ,if_true]
 first|rfl|(congr 1;first|rfl|(rw [Bool.eq_iff_iff];simp))⟩⟩
structure aj where
 cF:List UInt8
 Value:List UInt8
 deriving Inhabited
def aj.enc (x:aj):List AV:=[.str x.cF, .str x.Value]
theorem aj.inj:∀(a b:aj),aj.enc a=aj.enc b→a=b:=by
 intro a b h;obtain ⟨PU,JX⟩:=a;obtain ⟨P5,J5⟩:=b;simp only [aj.enc,List.cons.injEq,AV.int.injEq,AV.str.injEq,AV.bool.injEq,AV.cm.injEq,AV.mp.injEq,true_and,and_true] at h;obtain ⟨h0,h1⟩:=h;change PU=P5 at h0;change JX=J5 at h1;subst h0 h1;rfl
instance:c6 aj.enc:=⟨aj.inj⟩
structure af where
 Name:List UInt8
 aD:List (List UInt8)
 aR:List aj
 deriving Inhabited
def af.enc (x:af):List AV:=[.str x.Name, .cm 1 (List.map aA x.aD), .cm 2 (List.map aj.enc x.aR)]
theorem af.inj:∀(a b:af),af.enc a=af.enc b→a=b:=by
 intro a b h;obtain ⟨AT,E7,AS⟩:=a;obtain ⟨AW,Fa,AU⟩:=b;simp only [af.enc,List.cons.injEq,AV.int.injEq,AV.str.injEq,AV.bool.injEq,AV.cm.injEq,AV.mp.injEq,true_and,and_true] at h;obtain ⟨h0,h1,h2⟩:=h
 replace h1:=map_inj c6.inj _ _ h1
 replace h2:=map_inj c6.inj _ _ h2
 change AT=AW at h0;change E7=Fa at h1;change AS=AU at h2;subst h0 h1 h2;rfl
instance:c6 af.enc:=⟨af.inj⟩
structure aJ where
 Name:List UInt8
 Intro:Int
 deriving Inhabited
def aJ.enc (x:aJ):List AV:=[.str x.Name, .int .i64 x.Intro]
theorem aJ.inj:∀(a b:aJ),aJ.enc a=aJ.enc b→a=b:=by
 intro a b h;obtain ⟨AT,WB⟩:=a;obtain ⟨AW,WK⟩:=b;simp only [aJ.enc,List.cons.injEq,AV.int.injEq,AV.str.injEq,AV.bool.injEq,AV.cm.injEq,AV.mp.injEq,true_and,and_true] at h;obtain ⟨h0,h1⟩:=h;change AT=AW at h0;change WB=WK at h1;subst h0 h1;rfl
instance:c6 aJ.enc:=⟨aJ.inj⟩
structure au where
 cF:Int
 Value:Int
 deriving Inhabited
def au.enc (x:au):List AV:=[.int .i64 x.cF, .int .i64 x.Value]
theorem au.inj:∀(a b:au),au.enc a=au.enc b→a=b:=by
 intro a b h;obtain ⟨PU,JX⟩:=a;obtain ⟨P5,J5⟩:=b;simp only [au.enc,List.cons.injEq,AV.int.injEq,AV.str.injEq,AV.bool.injEq,AV.cm.injEq,AV.mp.injEq,true_and,and_true] at h;obtain ⟨h0,h1⟩:=h;change PU=P5 at h0;change JX=J5 at h1;subst h0 h1;rfl
instance:c6 au.enc:=⟨au.inj⟩
structure aq where
 Name:List UInt8
 Code:List Int
 deriving Inhabited
def aq.enc (x:aq):List AV:=[.str x.Name, .cm 1 (List.map (aB .u64) x.Code)]
theorem aq.inj:∀(a b:aq),aq.enc a=aq.enc b→a=b:=by
 intro a b h;obtain ⟨AT,PT⟩:=a;obtain ⟨AW,P4⟩:=b;simp only [aq.enc,List.cons.injEq,AV.int.injEq,AV.str.injEq,AV.bool.injEq,AV.cm.injEq,AV.mp.injEq,true_and,and_true] at h;obtain ⟨h0,h1⟩:=h
 replace h1:=map_inj c6.inj _ _ h1
 change AT=AW at h0;change PT=P4 at h1;subst h0 h1;rfl
instance:c6 aq.enc:=⟨aq.inj⟩
structure bu where
 Name:List UInt8
 Code:List Int
 aD:List Int
 aR:List au
 deriving Inhabited
def bu.enc (x:bu):List AV:=[.str x.Name, .cm 1 (List.map (aB .u64) x.Code), .cm 1 (List.map (aB .i64) x.aD), .cm 2 (List.map au.enc x.aR)]
theorem bu.inj:∀(a b:bu),bu.enc a=bu.enc b→a=b:=by
 intro a b h;obtain ⟨AT,PT,E7,AS⟩:=a;obtain ⟨AW,P4,Fa,AU⟩:=b;simp only [bu.enc,List.cons.injEq,AV.int.injEq,AV.str.injEq,AV.bool.injEq,AV.cm.injEq,AV.mp.injEq,true_and,and_true] at h;obtain ⟨h0,h1,h2,h3⟩:=h
 replace h1:=map_inj c6.inj _ _ h1
 replace h2:=map_inj c6.inj _ _ h2
 replace h3:=map_inj c6.inj _ _ h3
 change AT=AW at h0;change PT=P4 at h1;change E7=Fa at h2;change AS=AU at h3;subst h0 h1 h2 h3;rfl
instance:c6 bu.enc:=⟨bu.inj⟩
structure ak where
 Types:List bu
 aR:List aJ
 deriving Inhabited
def ak.enc (x:ak):List AV:=[.cm 4 (List.map bu.enc x.Types), .cm 2 (List.map aJ.enc x.aR)]
theorem ak.inj:∀(a b:ak),ak.enc a=ak.enc b→a=b:=by
 intro a b h;obtain ⟨WC,AS⟩:=a;obtain ⟨WL,AU⟩:=b;simp only [ak.enc,List.cons.injEq,AV.int.injEq,AV.str.injEq,AV.bool.injEq,AV.cm.injEq,AV.mp.injEq,true_and,and_true] at h;obtain ⟨h0,h1⟩:=h
 replace h0:=map_inj c6.inj _ _ h0
 replace h1:=map_inj c6.inj _ _ h1
 change WC=WL at h0;change AS=AU at h1;subst h0 h1;rfl
instance:c6 ak.enc:=⟨ak.inj⟩
structure table where
 d:List af
 codes:List aq
 number:List ((List UInt8)×Int)
 Bg:List (List UInt8)
 intro:List Int
 values:List (List au)
 deriving Inhabited
def table.enc (x:table):List AV:=[.cm 3 (List.map af.enc x.d), .cm 2 (List.map aq.enc x.codes), .mp (aO V9 V3 x.number).1 (aO V9 V3 x.number).2, .cm 1 (List.map aA x.Bg), .cm 1 (List.map (aB .i64) x.intro), .cm 1 (List.map (bS 2 au.enc) x.values)]
theorem table.inj:∀(a b:table),table.enc a=table.enc b→a=b:=by
 intro a b h;obtain ⟨ad,WD,T0,WE,WH,T2⟩:=a;obtain ⟨bd,WM,T5,WN,WO,T6⟩:=b;simp only [table.enc,List.cons.injEq,AV.int.injEq,AV.str.injEq,AV.bool.injEq,AV.cm.injEq,AV.mp.injEq,true_and,and_true] at h;obtain ⟨h0,h1,h2,h3,h4,h5⟩:=h
 replace h0:=map_inj c6.inj _ _ h0
 replace h1:=map_inj c6.inj _ _ h1
 replace h2:=iH (K:=V9) (V:=V3) h2.1 h2.2
 replace h3:=map_inj c6.inj _ _ h3
 replace h4:=map_inj c6.inj _ _ h4
 replace h5:=map_inj c6.inj _ _ h5
 change ad=bd at h0;change WD=WM at h1;change T0=T5 at h2;change WE=WN at h3;change WH=WO at h4;change T2=T6 at h5;subst h0 h1 h2 h3 h4 h5;rfl
instance:c6 table.enc:=⟨table.inj⟩
abbrev C52:Ad:=⟨af,af.enc⟩
abbrev C45:Ad:=⟨aJ,aJ.enc⟩
abbrev C35:Ad:=⟨List (au),(bS 2 au.enc)⟩
abbrev C37:Ad:=⟨au,au.enc⟩
abbrev C108:Ad:=⟨aq,aq.enc⟩
abbrev C4:Ad:=⟨Bool,Qu⟩
abbrev C9:Ad:=⟨List UInt8,aA⟩
abbrev C54:Ad:=⟨aj,aj.enc⟩
abbrev C5:Ad:=⟨Int,(aB .u8)⟩
abbrev C77:Ad:=⟨bu,bu.enc⟩
abbrev C134:Ad:=⟨Int,(aB .u64)⟩
abbrev C3:Ad:=⟨Int,(aB .i64)⟩
abbrev C74:Ad:=⟨List (Int),(bS 1 (aB .u64))⟩
abbrev jM:iE:=⟨List (List UInt8),(fun x=>AV.cm 1 (x.map aA))⟩
instance:c6 jM.enc:=⟨fun a b h=>by
 injection h with _ h
 exact map_inj c6.inj _ _ h⟩
abbrev qc:iE:=⟨List Int,(fun x=>AV.cm 1 (x.map (aB .u64)))⟩
instance:c6 qc.enc:=⟨fun a b h=>by
 injection h with _ h
 exact map_inj c6.inj _ _ h⟩
def Q0:Bool→AV:=(fun (x:Bool)=>((.bool x):AV))
instance:c6 Q0:=⟨fun a b h=>by
 simp only [Q0,AV.mp.injEq,AV.int.injEq,AV.str.injEq,AV.bool.injEq,AV.cm.injEq,AV.agg.injEq,AV.fG.injEq,List.cons.injEq,true_and,and_true] at h
 exact h⟩
def Q1:Int→AV:=(fun (x:Int)=>((.int .i64 x):AV))
instance:c6 Q1:=⟨fun a b h=>by
 simp only [Q1,AV.mp.injEq,AV.int.injEq,AV.str.injEq,AV.bool.injEq,AV.cm.injEq,AV.agg.injEq,AV.fG.injEq,List.cons.injEq,true_and,and_true] at h
 exact h⟩
def Q2:((List aJ)×Int)→AV:=(fun (x:(List aJ)×Int)=>((.fG [(.cm 2 (List.map aJ.enc x.1)),(.int .i64 x.2)]):AV))
instance:c6 Q2:=⟨fun a b h=>by
 obtain ⟨a0,a1⟩:=a;obtain ⟨b0,b1⟩:=b;simp only [Q2,AV.mp.injEq,AV.int.injEq,AV.str.injEq,AV.bool.injEq,AV.cm.injEq,AV.agg.injEq,AV.fG.injEq,List.cons.injEq,true_and,and_true] at h;obtain ⟨h0,h1⟩:=h
 replace h0:a0=b0:=map_inj c6.inj _ _ h0
 replace h1:a1=b1:=h1
 subst h0 h1
 rfl⟩
def Q3:((List (List au))×Int)→AV:=(fun (x:(List (List au))×Int)=>((.fG [(.cm 1 (List.map (bS 2 au.enc) x.1)),(.int .i64 x.2)]):AV))
instance:c6 Q3:=⟨fun a b h=>by
 obtain ⟨a0,a1⟩:=a;obtain ⟨b0,b1⟩:=b;simp only [Q3,AV.mp.injEq,AV.int.injEq,AV.str.injEq,AV.bool.injEq,AV.cm.injEq,AV.agg.injEq,AV.fG.injEq,List.cons.injEq,true_and,and_true] at h;obtain ⟨h0,h1⟩:=h
 replace h0:a0=b0:=map_inj c6.inj _ _ h0
 replace h1:a1=b1:=h1
 subst h0 h1
 rfl⟩
def Q4:((List aq)×(List aJ)×(List (List au))×Bool)→AV:=(fun (x:(List aq)×(List aJ)×(List (List au))×Bool)=>((.fG [(.cm 2 (List.map aq.enc x.1)),(.cm 2 (List.map aJ.enc x.2.1)),(.cm 1 (List.map (bS 2 au.enc) x.2.2.1)),(.bool x.2.2.2)]):AV))
instance:c6 Q4:=⟨fun a b h=>by
 obtain ⟨a0,a1,a2,a3⟩:=a;obtain ⟨b0,b1,b2,b3⟩:=b;simp only [Q4,AV.mp.injEq,AV.int.injEq,AV.str.injEq,AV.bool.injEq,AV.cm.injEq,AV.agg.injEq,AV.fG.injEq,List.cons.injEq,true_and,and_true] at h;obtain ⟨h0,h1,h2,h3⟩:=h
 replace h0:a0=b0:=map_inj c6.inj _ _ h0
 replace h1:a1=b1:=map_inj c6.inj _ _ h1
 replace h2:a2=b2:=map_inj c6.inj _ _ h2
 replace h3:a3=b3:=h3
 subst h0 h1 h2 h3
 rfl⟩
def Q5:(List af)→AV:=(fun (x:List af)=>((.cm 3 (List.map af.enc x)):AV))
instance:c6 Q5:=⟨fun a b h=>by
 simp only [Q5,AV.mp.injEq,AV.int.injEq,AV.str.injEq,AV.bool.injEq,AV.cm.injEq,AV.agg.injEq,AV.fG.injEq,List.cons.injEq,true_and,and_true] at h
 exact map_inj c6.inj _ _ h⟩
def Q6:(ak×Int)→AV:=(fun (x:ak×Int)=>((.fG [(.agg (ak.enc x.1)),(.int .i64 x.2)]):AV))
instance:c6 Q6:=⟨fun a b h=>by
 obtain ⟨a0,a1⟩:=a;obtain ⟨b0,b1⟩:=b;simp only [Q6,AV.mp.injEq,AV.int.injEq,AV.str.injEq,AV.bool.injEq,AV.cm.injEq,AV.agg.injEq,AV.fG.injEq,List.cons.injEq,true_and,and_true] at h;obtain ⟨h0,h1⟩:=h
 replace h0:a0=b0:=c6.inj _ _ h0
 replace h1:a1=b1:=h1
 subst h0 h1
 rfl⟩
def Q7:(ak×Int×Int×Bool)→AV:=(fun (x:ak×Int×Int×Bool)=>((.fG [(.agg (ak.enc x.1)),(.int .i64 x.2.1),(.int .i64 x.2.2.1),(.bool x.2.2.2)]):AV))
instance:c6 Q7:=⟨fun a b h=>by
 obtain ⟨a0,a1,a2,a3⟩:=a;obtain ⟨b0,b1,b2,b3⟩:=b;simp only [Q7,AV.mp.injEq,AV.int.injEq,AV.str.injEq,AV.bool.injEq,AV.cm.injEq,AV.agg.injEq,AV.fG.injEq,List.cons.injEq,true_and,and_true] at h;obtain ⟨h0,h1,h2,h3⟩:=h
 replace h0:a0=b0:=c6.inj _ _ h0
 replace h1:a1=b1:=h1
 replace h2:a2=b2:=h2
 replace h3:a3=b3:=h3
 subst h0 h1 h2 h3
 rfl⟩
def Q8:(Int×Bool)→AV:=(fun (x:Int×Bool)=>((.fG [(.int .i64 x.1),(.bool x.2)]):AV))
instance:c6 Q8:=⟨fun a b h=>by
 obtain ⟨a0,a1⟩:=a;obtain ⟨b0,b1⟩:=b;simp only [Q8,AV.mp.injEq,AV.int.injEq,AV.str.injEq,AV.bool.injEq,AV.cm.injEq,AV.agg.injEq,AV.fG.injEq,List.cons.injEq,true_and,and_true] at h;obtain ⟨h0,h1⟩:=h
 replace h0:a0=b0:=h0
 replace h1:a1=b1:=h1
 subst h0 h1
 rfl⟩
def Q9:(List Int)→AV:=(fun (x:List Int)=>((.cm 1 (List.map (aB .i64) x)):AV))
instance:c6 Q9:=⟨fun a b h=>by
 simp only [Q9,AV.mp.injEq,AV.int.injEq,AV.str.injEq,AV.bool.injEq,AV.cm.injEq,AV.agg.injEq,AV.fG.injEq,List.cons.injEq,true_and,and_true] at h
 exact map_inj c6.inj _ _ h⟩
def Q10:((List aq)×Int)→AV:=(fun (x:(List aq)×Int)=>((.fG [(.cm 2 (List.map aq.enc x.1)),(.int .i64 x.2)]):AV))
instance:c6 Q10:=⟨fun a b h=>by
 obtain ⟨a0,a1⟩:=a;obtain ⟨b0,b1⟩:=b;simp only [Q10,AV.mp.injEq,AV.int.injEq,AV.str.injEq,AV.bool.injEq,AV.cm.injEq,AV.agg.injEq,AV.fG.injEq,List.cons.injEq,true_and,and_true] at h;obtain ⟨h0,h1⟩:=h
 replace h0:a0=b0:=map_inj c6.inj _ _ h0
 replace h1:a1=b1:=h1
 subst h0 h1
 rfl⟩
def Q11:(List Int)→AV:=(fun (x:List Int)=>((.cm 1 (List.map (aB .u64) x)):AV))
instance:c6 Q11:=⟨fun a b h=>by
 simp only [Q11,AV.mp.injEq,AV.int.injEq,AV.str.injEq,AV.bool.injEq,AV.cm.injEq,AV.agg.injEq,AV.fG.injEq,List.cons.injEq,true_and,and_true] at h
 exact map_inj c6.inj _ _ h⟩
def Q12:af→AV:=(fun (x:af)=>((.agg (af.enc x)):AV))
instance:c6 Q12:=⟨fun a b h=>by
 simp only [Q12,AV.mp.injEq,AV.int.injEq,AV.str.injEq,AV.bool.injEq,AV.cm.injEq,AV.agg.injEq,AV.fG.injEq,List.cons.injEq,true_and,and_true] at h
 exact c6.inj _ _ h⟩
def Q13:((Option table)×Int)→AV:=(fun (x:(Option table)×Int)=>((.fG [(Ai table.enc x.1),(.int .i64 x.2)]):AV))
instance:c6 Q13:=⟨fun a b h=>by
 obtain ⟨a0,a1⟩:=a;obtain ⟨b0,b1⟩:=b;simp only [Q13,AV.mp.injEq,AV.int.injEq,AV.str.injEq,AV.bool.injEq,AV.cm.injEq,AV.agg.injEq,AV.fG.injEq,List.cons.injEq,true_and,and_true] at h;obtain ⟨h0,h1⟩:=h
 replace h0:a0=b0:=c6.inj _ _ h0
 replace h1:a1=b1:=h1
 subst h0 h1
 rfl⟩
def Q14:(List (List UInt8))→AV:=(fun (x:List (List UInt8))=>((.cm 1 (List.map aA x)):AV))
instance:c6 Q14:=⟨fun a b h=>by
 simp only [Q14,AV.mp.injEq,AV.int.injEq,AV.str.injEq,AV.bool.injEq,AV.cm.injEq,AV.agg.injEq,AV.fG.injEq,List.cons.injEq,true_and,and_true] at h
 exact map_inj c6.inj _ _ h⟩
def Q15:((List UInt8)×Bool)→AV:=(fun (x:(List UInt8)×Bool)=>((.fG [(.str x.1),(.bool x.2)]):AV))
instance:c6 Q15:=⟨fun a b h=>by
 obtain ⟨a0,a1⟩:=a;obtain ⟨b0,b1⟩:=b;simp only [Q15,AV.mp.injEq,AV.int.injEq,AV.str.injEq,AV.bool.injEq,AV.cm.injEq,AV.agg.injEq,AV.fG.injEq,List.cons.injEq,true_and,and_true] at h;obtain ⟨h0,h1⟩:=h
 replace h0:a0=b0:=h0
 replace h1:a1=b1:=h1
 subst h0 h1
 rfl⟩
def Q16:((List (List UInt8))×(List (List Int)))→AV:=(fun (x:(List (List UInt8))×(List (List Int)))=>((.fG [(.cm 1 (List.map aA x.1)),(.cm 1 (List.map (bS 1 (aB .u64)) x.2))]):AV))
instance:c6 Q16:=⟨fun a b h=>by
 obtain ⟨a0,a1⟩:=a;obtain ⟨b0,b1⟩:=b;simp only [Q16,AV.mp.injEq,AV.int.injEq,AV.str.injEq,AV.bool.injEq,AV.cm.injEq,AV.agg.injEq,AV.fG.injEq,List.cons.injEq,true_and,and_true] at h;obtain ⟨h0,h1⟩:=h
 replace h0:a0=b0:=map_inj c6.inj _ _ h0
 replace h1:a1=b1:=map_inj c6.inj _ _ h1
 subst h0 h1
 rfl⟩
def Q17:((List (List Int))×Bool)→AV:=(fun (x:(List (List Int))×Bool)=>((.fG [(.cm 1 (List.map (bS 1 (aB .u64)) x.1)),(.bool x.2)]):AV))
instance:c6 Q17:=⟨fun a b h=>by
 obtain ⟨a0,a1⟩:=a;obtain ⟨b0,b1⟩:=b;simp only [Q17,AV.mp.injEq,AV.int.injEq,AV.str.injEq,AV.bool.injEq,AV.cm.injEq,AV.agg.injEq,AV.fG.injEq,List.cons.injEq,true_and,and_true] at h;obtain ⟨h0,h1⟩:=h
 replace h0:a0=b0:=map_inj c6.inj _ _ h0
 replace h1:a1=b1:=h1
 subst h0 h1
 rfl⟩
def Q18:(List (List Int))→AV:=(fun (x:List (List Int))=>((.cm 1 (List.map (bS 1 (aB .u64)) x)):AV))
instance:c6 Q18:=⟨fun a b h=>by
 simp only [Q18,AV.mp.injEq,AV.int.injEq,AV.str.injEq,AV.bool.injEq,AV.cm.injEq,AV.agg.injEq,AV.fG.injEq,List.cons.injEq,true_and,and_true] at h
 exact map_inj c6.inj _ _ h⟩
def Q19:((List Int)×Bool)→AV:=(fun (x:(List Int)×Bool)=>((.fG [(.cm 1 (List.map (aB .u64) x.1)),(.bool x.2)]):AV))
instance:c6 Q19:=⟨fun a b h=>by
 obtain ⟨a0,a1⟩:=a;obtain ⟨b0,b1⟩:=b;simp only [Q19,AV.mp.injEq,AV.int.injEq,AV.str.injEq,AV.bool.injEq,AV.cm.injEq,AV.agg.injEq,AV.fG.injEq,List.cons.injEq,true_and,and_true] at h;obtain ⟨h0,h1⟩:=h
 replace h0:a0=b0:=map_inj c6.inj _ _ h0
 replace h1:a1=b1:=h1
 subst h0 h1
 rfl⟩
def Q20:Unit→AV:=(fun (_:Unit)=>AV.fG [])
instance:c6 Q20:=⟨fun a b h=>rfl⟩
def Q21:Int→AV:=(fun (x:Int)=>((.int .u64 x):AV))
instance:c6 Q21:=⟨fun a b h=>by
 simp only [Q21,AV.mp.injEq,AV.int.injEq,AV.str.injEq,AV.bool.injEq,AV.cm.injEq,AV.agg.injEq,AV.fG.injEq,List.cons.injEq,true_and,and_true] at h
 exact h⟩
def Q22:(List UInt8)→AV:=(fun (x:List UInt8)=>((.str x):AV))
instance:c6 Q22:=⟨fun a b h=>by
 simp only [Q22,AV.mp.injEq,AV.int.injEq,AV.str.injEq,AV.bool.injEq,AV.cm.injEq,AV.agg.injEq,AV.fG.injEq,List.cons.injEq,true_and,and_true] at h
 exact h⟩
def Q23:(List ((List UInt8)×(List (List UInt8))))→AV:=(fun (x:List ((List UInt8)×(List (List UInt8))))=>((.mp (aO V9 jM x).1 (aO V9 jM x).2):AV))
instance:c6 Q23:=⟨fun a b h=>by
 simp only [Q23,AV.mp.injEq,AV.int.injEq,AV.str.injEq,AV.bool.injEq,AV.cm.injEq,AV.agg.injEq,AV.fG.injEq,List.cons.injEq,true_and,and_true] at h
 exact iH (K:=V9) (V:=jM) h.1 h.2⟩
def Q24:((List Int)×Int)→AV:=(fun (x:(List Int)×Int)=>((.fG [(.cm 1 (List.map (aB .u64) x.1)),(.int .i64 x.2)]):AV))
instance:c6 Q24:=⟨fun a b h=>by
 obtain ⟨a0,a1⟩:=a;obtain ⟨b0,b1⟩:=b;simp only [Q24,AV.mp.injEq,AV.int.injEq,AV.str.injEq,AV.bool.injEq,AV.cm.injEq,AV.agg.injEq,AV.fG.injEq,List.cons.injEq,true_and,and_true] at h;obtain ⟨h0,h1⟩:=h
 replace h0:a0=b0:=map_inj c6.inj _ _ h0
 replace h1:a1=b1:=h1
 subst h0 h1
 rfl⟩
def Q25:(List ((List UInt8)×(List Int)))→AV:=(fun (x:List ((List UInt8)×(List Int)))=>((.mp (aO V9 qc x).1 (aO V9 qc x).2):AV))
instance:c6 Q25:=⟨fun a b h=>by
 simp only [Q25,AV.mp.injEq,AV.int.injEq,AV.str.injEq,AV.bool.injEq,AV.cm.injEq,AV.agg.injEq,AV.fG.injEq,List.cons.injEq,true_and,and_true] at h
 exact iH (K:=V9) (V:=qc) h.1 h.2⟩
def Q26:Nat→AV:=(fun (x:Nat)=>(AV.self x:AV))
instance:c6 Q26:=⟨fun a b h=>by
 simp only [Q26,AV.self.injEq] at h
 exact h⟩
abbrev R300.T:Type:=Bool
abbrev R301.T:Type:=Bool
abbrev R302.T:Type:=Bool
abbrev R303.T:Type:=Bool
abbrev R304.T:Type:=Bool
abbrev R305.T:Type:=Bool
abbrev R306.T:Type:=Bool
abbrev R307.T:Type:=Bool
abbrev R308.T:Type:=Bool
abbrev R309.T:Type:=Bool
abbrev R310.T:Type:=Bool
abbrev R311.T:Type:=Bool
abbrev R312.T:Type:=Bool
abbrev R313.T:Type:=Bool
abbrev R314.T:Type:=Bool
abbrev R315.T:Type:=Bool
abbrev R316.T:Type:=Bool
abbrev R317.T:Type:=Int
abbrev R318.T:Type:=Int
abbrev R319.T:Type:=(List aJ)×Int
abbrev R320.T:Type:=(List aJ)×Int
abbrev R321.T:Type:=Bool
abbrev R322.T:Type:=(List (List au))×Int
abbrev R323.T:Type:=(List (List au))×Int
abbrev R324.T:Type:=Bool
abbrev R347.T:Type:=Bool
abbrev R348.T:Type:=Bool
abbrev R325.T:Type:=(List aq)×(List aJ)×(List (List au))×Bool
abbrev R360.T:Type:=Int×Bool
abbrev R24.T:Type:=Bool
abbrev R349.T:Type:=Int
abbrev R361.T:Type:=Int
abbrev R14.T:Type:=(List aq)×Int
abbrev R391.T:Type:=af
abbrev R326.T:Type:=List af
abbrev R328.T:Type:=Bool
abbrev R327.T:Type:=List af
abbrev R329.T:Type:=Bool
abbrev R331.T:Type:=ak×Int
abbrev R332.T:Type:=ak×Int
abbrev R333.T:Type:=Bool
abbrev R330.T:Type:=Bool
abbrev R334.T:Type:=ak×Int×Int×Bool
abbrev R352.T:Type:=Int
abbrev R363.T:Type:=Int
abbrev R364.T:Type:=Int
abbrev R365.T:Type:=Int
abbrev R335.T:Type:=Int×Bool
abbrev R336.T:Type:=Int×Bool
abbrev R337.T:Type:=Int
abbrev R338.T:Type:=Int
abbrev R339.T:Type:=Bool
abbrev R340.T:Type:=Bool
abbrev R26.T:Type:=Bool
abbrev R341.T:Type:=List Int
abbrev R342.T:Type:=List Int
abbrev R355.T:Type:=Int×Bool
abbrev R356.T:Type:=Int×Bool
abbrev R343.T:Type:=List af
abbrev R15.T:Type:=(List aq)×Int
abbrev R29.T:Type:=List Int
abbrev R30.T:Type:=Int
abbrev R31.T:Type:=Bool
abbrev R20.T:Type:=Int
abbrev R22.T:Type:=Int
abbrev R38.T:Type:=Bool
abbrev R344.T:Type:=(Option table)×Int
abbrev R345.T:Type:=List (List UInt8)
abbrev R346.T:Type:=Int
abbrev R357.T:Type:=(List UInt8)×Bool
abbrev R370.T:Type:=(List Int)×Bool
abbrev R358.T:Type:=Int
abbrev R19.T:Type:=Int
abbrev R359.T:Type:=Bool
abbrev R378.T:Type:=Bool
abbrev R386.T:Type:=Bool
abbrev R63.T:Type:=Bool
abbrev R39.T:Type:=Int
abbrev R40.T:Type:=(List (List UInt8))×(List (List Int))
abbrev R41.T:Type:=(List (List Int))×Bool
abbrev R42.T:Type:=Int
abbrev R43.T:Type:=Bool
abbrev R44.T:Type:=List Int
abbrev R45.T:Type:=List UInt8
abbrev R46.T:Type:=List (List UInt8)
abbrev R47.T:Type:=Unit
abbrev R350.T:Type:=af
abbrev R362.T:Type:=Bool
abbrev R351.T:Type:=af
abbrev R27.T:Type:=List Int
abbrev R28.T:Type:=List Int
abbrev R57.T:Type:=Bool
abbrev R353.T:Type:=Int
abbrev R374.T:Type:=Bool
abbrev R371.T:Type:=Bool
abbrev R354.T:Type:=Int×Bool
abbrev R61.T:Type:=List Int
abbrev R62.T:Type:=List Int
abbrev R64.T:Type:=List Int
abbrev R65.T:Type:=Bool
abbrev R32.T:Type:=Int
abbrev R52.T:Type:=List (List UInt8)
abbrev R53.T:Type:=List Int
abbrev R54.T:Type:=List (List Int)
abbrev R55.T:Type:=List UInt8
abbrev R56.T:Type:=Bool
abbrev R68.T:Type:=List Int
abbrev R69.T:Type:=Int
abbrev R18.T:Type:=Int
abbrev R366.T:Type:=Int
abbrev R375.T:Type:=Bool
abbrev R367.T:Type:=Int
abbrev R368.T:Type:=Int
abbrev R369.T:Type:=Int
abbrev R98.T:Type:=List (List UInt8)
abbrev R372.T:Type:=Bool
abbrev R37.T:Type:=Bool
abbrev R373.T:Type:=(List UInt8)×Bool
abbrev R104.T:Type:=List (List UInt8)
abbrev R25.T:Type:=Bool
abbrev R60.T:Type:=List Int
abbrev R379.T:Type:=Int
abbrev R107.T:Type:=Int
abbrev R76.T:Type:=Bool
abbrev R77.T:Type:=Int
abbrev R78.T:Type:=Int
abbrev R79.T:Type:=List (List UInt8)
abbrev R80.T:Type:=Unit
abbrev R81.T:Type:=List (List UInt8)
abbrev R82.T:Type:=Int×Bool
abbrev R83.T:Type:=(List Int)×Int
abbrev R84.T:Type:=Unit
abbrev R85.T:Type:=List UInt8
abbrev R86.T:Type:=Int
abbrev R90.T:Type:=List (List UInt8)
abbrev R75.T:Type:=List ((List UInt8)×(List (List UInt8)))
abbrev R74.T:Type:=List (List UInt8)
abbrev R91.T:Type:=Bool
abbrev R92.T:Type:=Bool
abbrev R93.T:Type:=Bool
abbrev R97.T:Type:=Bool
abbrev R66.T:Type:=Bool
abbrev R67.T:Type:=Bool
abbrev R106.T:Type:=Int
abbrev R108.T:Type:=List Int
abbrev R70.T:Type:=Int
abbrev R71.T:Type:=Int
abbrev R72.T:Type:=Int
abbrev R73.T:Type:=List (List UInt8)
abbrev R99.T:Type:=List (List UInt8)
abbrev R100.T:Type:=(List Int)×Int
abbrev R101.T:Type:=Bool
abbrev R102.T:Type:=Bool
abbrev R103.T:Type:=Bool
abbrev R105.T:Type:=Int
abbrev R58.T:Type:=Int
abbrev R59.T:Type:=Bool
abbrev R380.T:Type:=Bool
abbrev R381.T:Type:=Bool
abbrev R388.T:Type:=Bool
abbrev R376.T:Type:=List Int
abbrev R109.T:Type:=Int
abbrev R382.T:Type:=Bool
abbrev R390.T:Type:=Bool
abbrev R377.T:Type:=List ((List UInt8)×(List Int))
abbrev R140.T:Type:=Bool
abbrev R137.T:Type:=List (List UInt8)
abbrev R138.T:Type:=List (List UInt8)
abbrev R113.T:Type:=Bool
abbrev R114.T:Type:=Bool
abbrev R115.T:Type:=Bool
abbrev R116.T:Type:=List UInt8
abbrev R117.T:Type:=Nat
abbrev R118.T:Type:=Bool
abbrev R120.T:Type:=Bool
abbrev R121.T:Type:=Bool
abbrev R124.T:Type:=Nat
abbrev R125.T:Type:=Int
abbrev R126.T:Type:=Int
abbrev R110.T:Type:=Bool
abbrev R111.T:Type:=Int
abbrev R112.T:Type:=Bool
abbrev R139.T:Type:=List Int
abbrev R142.T:Type:=Bool
abbrev R387.T:Type:=Bool
abbrev R384.T:Type:=Int
abbrev R389.T:Type:=Bool
abbrev R385.T:Type:=Unit
abbrev R383.T:Type:=List Int
abbrev R159.T:Type:=Bool
abbrev R160.T:Type:=Bool
abbrev R141.T:Type:=Int
abbrev R143.T:Type:=Bool
abbrev R161.T:Type:=Bool
abbrev R166.T:Type:=Bool
abbrev R167.T:Type:=Bool
def elems:List (Nat×Ad):=[(52,C52),(45,C45),(35,C35),(37,C37),(108,C108),(4,C4),(9,C9),(54,C54),(5,C5),(77,C77),(134,C134),(3,C3),(74,C74)]
def vals:List (Nat×iE):=[(3,V3),(4,V4),(9,V9),(49,jM),(74,qc)]
def Yq:List (Nat×iE):=[(3,⟨_,Q0⟩),(4,⟨_,Q0⟩),(5,⟨_,Q0⟩),(6,⟨_,Q0⟩),(7,⟨_,Q0⟩),(8,⟨_,Q0⟩),(9,⟨_,Q0⟩),(11,⟨_,Q0⟩),(12,⟨_,Q0⟩),(13,⟨_,Q0⟩),(14,⟨_,Q0⟩),(15,⟨_,Q0⟩),(16,⟨_,Q0⟩),(17,⟨_,Q0⟩),(18,⟨_,Q0⟩),(19,⟨_,Q0⟩),(20,⟨_,Q0⟩),(21,⟨_,Q1⟩),(22,⟨_,Q1⟩),(23,⟨_,Q2⟩),(24,⟨_,Q2⟩),(25,⟨_,Q0⟩),(26,⟨_,Q3⟩),(27,⟨_,Q3⟩),(28,⟨_,Q0⟩),(29,⟨_,Q0⟩),(30,⟨_,Q0⟩),(31,⟨_,Q4⟩),(32,⟨_,Q8⟩),(33,⟨_,Q0⟩),(34,⟨_,Q1⟩),(35,⟨_,Q1⟩),(36,⟨_,Q10⟩),(37,⟨_,Q12⟩),(38,⟨_,Q5⟩),(39,⟨_,Q0⟩),(40,⟨_,Q5⟩),(41,⟨_,Q0⟩),(42,⟨_,Q6⟩),(43,⟨_,Q6⟩),(44,⟨_,Q0⟩),(45,⟨_,Q0⟩),(46,⟨_,Q7⟩),(47,⟨_,Q1⟩),(48,⟨_,Q1⟩),(49,⟨_,Q1⟩),(50,⟨_,Q1⟩),(51,⟨_,Q8⟩),(52,⟨_,Q8⟩),(53,⟨_,Q1⟩),(54,⟨_,Q1⟩),(55,⟨_,Q0⟩),(56,⟨_,Q0⟩),(57,⟨_,Q0⟩),(58,⟨_,Q9⟩),(59,⟨_,Q9⟩),(60,⟨_,Q8⟩),(61,⟨_,Q8⟩),(62,⟨_,Q5⟩),(63,⟨_,Q10⟩),(64,⟨_,Q11⟩),(65,⟨_,Q1⟩),(66,⟨_,Q0⟩),(67,⟨_,Q1⟩),(68,⟨_,Q1⟩),(69,⟨_,Q0⟩),(70,⟨_,Q13⟩),(71,⟨_,Q14⟩),(72,⟨_,Q1⟩),(73,⟨_,Q15⟩),(74,⟨_,Q19⟩),(75,⟨_,Q1⟩),(76,⟨_,Q1⟩),(77,⟨_,Q0⟩),(78,⟨_,Q0⟩),(79,⟨_,Q0⟩),(80,⟨_,Q0⟩),(81,⟨_,Q1⟩),(82,⟨_,Q16⟩),(83,⟨_,Q17⟩),(84,⟨_,Q1⟩),(85,⟨_,Q0⟩),(86,⟨_,Q9⟩),(87,⟨_,Q22⟩),(88,⟨_,Q14⟩),(89,⟨_,Q20⟩),(94,⟨_,Q12⟩),(95,⟨_,Q0⟩),(96,⟨_,Q12⟩),(97,⟨_,Q9⟩),(98,⟨_,Q9⟩),(99,⟨_,Q0⟩),(100,⟨_,Q1⟩),(101,⟨_,Q0⟩),(102,⟨_,Q0⟩),(103,⟨_,Q8⟩),(104,⟨_,Q11⟩),(105,⟨_,Q11⟩),(106,⟨_,Q11⟩),(107,⟨_,Q0⟩),(108,⟨_,Q1⟩),(109,⟨_,Q14⟩),(110,⟨_,Q11⟩),(111,⟨_,Q18⟩),(112,⟨_,Q22⟩),(113,⟨_,Q0⟩),(114,⟨_,Q11⟩),(115,⟨_,Q1⟩),(116,⟨_,Q1⟩),(117,⟨_,Q1⟩),(118,⟨_,Q0⟩),(119,⟨_,Q1⟩),(120,⟨_,Q1⟩),(121,⟨_,Q1⟩),(122,⟨_,Q14⟩),(123,⟨_,Q0⟩),(124,⟨_,Q0⟩),(125,⟨_,Q15⟩),(126,⟨_,Q14⟩),(127,⟨_,Q0⟩),(128,⟨_,Q11⟩),(129,⟨_,Q1⟩),(130,⟨_,Q21⟩),(131,⟨_,Q0⟩),(132,⟨_,Q1⟩),(133,⟨_,Q1⟩),(134,⟨_,Q14⟩),(135,⟨_,Q20⟩),(136,⟨_,Q14⟩),(137,⟨_,Q8⟩),(138,⟨_,Q24⟩),(139,⟨_,Q20⟩),(140,⟨_,Q22⟩),(141,⟨_,Q1⟩),(145,⟨_,Q14⟩),(146,⟨_,Q23⟩),(147,⟨_,Q14⟩),(148,⟨_,Q0⟩),(149,⟨_,Q0⟩),(150,⟨_,Q0⟩),(154,⟨_,Q0⟩),(155,⟨_,Q0⟩),(156,⟨_,Q0⟩),(157,⟨_,Q21⟩),(158,⟨_,Q11⟩),(159,⟨_,Q1⟩),(160,⟨_,Q1⟩),(161,⟨_,Q1⟩),(162,⟨_,Q14⟩),(163,⟨_,Q14⟩),(164,⟨_,Q24⟩),(165,⟨_,Q0⟩),(166,⟨_,Q0⟩),(167,⟨_,Q0⟩),(168,⟨_,Q1⟩),(169,⟨_,Q1⟩),(170,⟨_,Q0⟩),(171,⟨_,Q0⟩),(172,⟨_,Q0⟩),(173,⟨_,Q0⟩),(174,⟨_,Q9⟩),(175,⟨_,Q1⟩),(176,⟨_,Q0⟩),(177,⟨_,Q0⟩),(178,⟨_,Q25⟩),(179,⟨_,Q0⟩),(180,⟨_,Q14⟩),(181,⟨_,Q14⟩),(182,⟨_,Q0⟩),(183,⟨_,Q0⟩),(184,⟨_,Q0⟩),(185,⟨_,Q22⟩),(186,⟨_,Q26⟩),(187,⟨_,Q0⟩),(189,⟨_,Q0⟩),(190,⟨_,Q0⟩),(193,⟨_,Q26⟩),(194,⟨_,Q1⟩),(195,⟨_,Q1⟩),(206,⟨_,Q0⟩),(207,⟨_,Q1⟩),(208,⟨_,Q0⟩),(209,⟨_,Q9⟩),(210,⟨_,Q0⟩),(211,⟨_,Q0⟩),(212,⟨_,Q1⟩),(213,⟨_,Q0⟩),(214,⟨_,Q20⟩),(215,⟨_,Q11⟩),(216,⟨_,Q0⟩),(217,⟨_,Q0⟩),(218,⟨_,Q1⟩),(219,⟨_,Q0⟩),(235,⟨_,Q0⟩),(236,⟨_,Q0⟩),(237,⟨_,Q0⟩)]
def qh:jL:={ elem:=Bi elems,val:=Bi vals,res:=Bi Yq,ptr:=some ⟨table,table.enc⟩ }
def hints:List (Nat×Hint):=[
 (4,{ loops:=[],rows:=[],bQ:=[3,5],bg:=[] }),
 (5,{ loops:=[],rows:=[],bQ:=[3,5],bg:=[] }),
 (6,{ loops:=[(4,[0,11,12],[]),(9,[0,11,12,25,26,27],[])],rows:=[],bQ:=[],bg:=[] }),
 (7,{ loops:=[(7,[3,4,5,33,34],[]),(10,[3,4,5,7,33,34,38,39],[]),(16,[3,4,5,7,8,9,10,33,34,38,39,93,94],[])],rows:=[],bQ:=[3,4,5],bg:=[] }),
 (8,{ loops:=[(8,[0,3,4,5,7,39,40],[37]),(12,[0,3,4,5,7,9,39,40,54,55,56],[37]),(25,[4,7,131,132],[37])],rows:=[37],bQ:=[3,4,5],bg:=[] }),
 (9,{ loops:=[(5,[0,3,17,18],[3]),(15,[9,83,84],[])],rows:=[3],bQ:=[5,7,9],bg:=[] }),
 (10,{ loops:=[(3,[0,3,4],[12])],rows:=[12,56],bQ:=[6],bg:=[] }),
 (11,{ loops:=[(8,[1,5,6,25,26,27],[22])],rows:=[22],bQ:=[5],bg:=[] }),
 (13,{ loops:=[(5,[1,5,23,24],[5]),(11,[1,5,40,41],[5])],rows:=[],bQ:=[],bg:=[] }),
 (15,{ loops:=[(5,[5,6,27,28],[5])],rows:=[],bQ:=[],bg:=[] }),
 (16,{ loops:=[(11,[7,9,11,12,59,60],[7]),(15,[7,9,11,12,13,14,15,59,60,72,73,74],[7])],rows:=[],bQ:=[],bg:=[] }),
 (18,{ loops:=[],rows:=[],bQ:=[11,15],bg:=[] }),
 (20,{ loops:=[],rows:=[61,69],bQ:=[1,2,4,6,7],bg:=[] }),
 (22,{ loops:=[(11,[0,3,5,7],[]),(17,[0,3,5,10],[]),(20,[0,3,5,10,11],[])],rows:=[],bQ:=[3,5,12],bg:=[] }),
 (23,{ loops:=[(6,[4,6,20,21,22],[6])],rows:=[6],bQ:=[],bg:=[] }),
 (24,{ loops:=[(8,[0,5,7,8,9],[8])],rows:=[8],bQ:=[5,7],bg:=[] }),
 (25,{ loops:=[(4,[0,1,5],[])],rows:=[],bQ:=[],bg:=[] }),
 (27,{ loops:=[(8,[0,5,7,8,9],[8]),(12,[0,5,7,8,9,10,11],[8,10])],rows:=[8,10],bQ:=[5,7,12],bg:=[],oV:=[(17,[10])] }),
 (28,{ loops:=[(4,[0,1,5],[])],rows:=[],bQ:=[],bg:=[] }),
 (29,{ loops:=[(3,[0,3,9,10],[3,7]),(8,[0,3,5],[3,7]),(11,[0,3,5,18,19],[3,7])],rows:=[],bQ:=[],bg:=[30],stay:=[31] }),
 (30,{ loops:=[(4,[0,3,4,5],[11]),(7,[0,3,4,5,6],[11]),(11,[0,3,4,5,6,7,8],[11])],rows:=[11],bQ:=[],bg:=[] }),
 (31,{ loops:=[],rows:=[],bQ:=[6,8,10],bg:=[] }),
 (32,{ loops:=[(2,[1,8,9,10],[])],rows:=[],bQ:=[],bg:=[] }),
 (34,{ loops:=[(2,[0,1,7,8],[])],rows:=[],bQ:=[],bg:=[] }),
 (35,{ loops:=[(2,[0,1,7,8],[])],rows:=[],bQ:=[],bg:=[] }),
 (36,{ loops:=[(10,[0,5,6,9,34,35,36],[9]),(18,[0,5,6,9,12,14,34,35,36,53,54,55],[9,12,14])],rows:=[9,14],bQ:=[5,6,7],bg:=[77] }),
 (37,{ loops:=[(3,[2,6,7,8],[6,7,5112,5113,5114,5115,5116,5117,5192,5193,5194,5195,5196,5197])],rows:=[7,12],bQ:=[],bg:=[],oV:=[(6,[5112,5113,5114,5115,5116,5117,5192,5193,5194,5195,5196,5197])] }),
 (39,{ loops:=[(4,[0,1,5],[]),(9,[0,1,5,6],[])],rows:=[],bQ:=[],bg:=[] }),
 (41,{ loops:=[(7,[1,3,4,41,42],[1]),(13,[1,4,68,69],[1])],rows:=[],bQ:=[3,4],bg:=[] }),
 (42,{ loops:=[(12,[2,6,7,8,40,41,42],[2,8,5128,5129,5130,5131,5132,5133,5624,5625,5626,5627,5628,5629])],rows:=[8,39],bQ:=[4,6,7],bg:=[],oV:=[(16,[5128,5129,5130,5131,5132,5133,5624,5625,5626,5627,5628,5629])] }),
 (43,{ loops:=[(7,[0,2,4,6,8,9],[2,8,5128,5129,5130,5131,5132,5133])],rows:=[8],bQ:=[4,6],bg:=[],oV:=[(12,[5128,5129,5130,5131,5132,5133])] }),
 (44,{ loops:=[(4,[2,3,5],[2,3])],rows:=[],bQ:=[],bg:=[] }),
 (47,{ loops:=[],rows:=[],bQ:=[],bg:=[],stay:=[8] }),
 (48,{ loops:=[(2,[1,8,9,10],[2])],rows:=[],bQ:=[],bg:=[] }),
 (49,{ loops:=[(2,[1,2,5],[2])],rows:=[],bQ:=[],bg:=[] }),
 (50,{ loops:=[(2,[1,2,5],[2])],rows:=[],bQ:=[],bg:=[] }),
 (51,{ loops:=[],rows:=[],bQ:=[],bg:=[],stay:=[29] }),
 (53,{ loops:=[(4,[3,7,8,25,26,27],[3])],rows:=[],bQ:=[7],bg:=[] }),
 (54,{ loops:=[(4,[3,7,8,9],[3])],rows:=[],bQ:=[7,8],bg:=[] }),
 (57,{ loops:=[(4,[0,1,5],[])],rows:=[],bQ:=[],bg:=[] }),
 (58,{ loops:=[(3,[1,2,5,9,10],[2,5])],rows:=[5],bQ:=[],bg:=[] }),
 (59,{ loops:=[(3,[1,2,5,6],[2,5])],rows:=[5],bQ:=[],bg:=[] }),
 (60,{ loops:=[(2,[2,15,16,17],[3])],rows:=[],bQ:=[],bg:=[] }),
 (61,{ loops:=[(3,[2,8,9],[])],rows:=[],bQ:=[8],bg:=[] }),
 (62,{ loops:=[(3,[0,1,5,12,13],[5]),(8,[0,1,5,7,8,9,12,13],[5,7,8,5128,5129,5130,5131,5132,5133,5448,5449,5450,5451,5452,5453]),(12,[0,1,5,7,8,10,12,13],[5,7,8,5128,5129,5130,5131,5132,5133,5448,5449,5450,5451,5452,5453])],rows:=[5,8,28],bQ:=[],bg:=[],oV:=[(15,[5128,5129,5130,5131,5132,5133,5448,5449,5450,5451,5452,5453])] }),
 (63,{ loops:=[(7,[0,5,6,7],[6]),(15,[0,5,6,8,9,10],[6]),(19,[0,5,6,8,9,10,11,12],[6,11])],rows:=[6,13],bQ:=[5,8,9],bg:=[] }),
 (64,{ loops:=[(3,[0,1,5,14,15],[12])],rows:=[12],bQ:=[],bg:=[] }),
 (65,{ loops:=[(3,[3,6,7,8],[])],rows:=[],bQ:=[],bg:=[] }),
 (68,{ loops:=[(4,[0,7,8,26,27,28],[])],rows:=[],bQ:=[7,8],bg:=[] }),
 (69,{ loops:=[(4,[0,3],[])],rows:=[],bQ:=[],bg:=[] }),
 (70,{ loops:=[(6,[4,6,24,25,26],[21,23,5352,5353,5354,5355,5356,5357])],rows:=[22],bQ:=[4],bg:=[],oV:=[(8,[8])],stay:=[38] }),
 (71,{ loops:=[(3,[0,3,4],[]),(6,[0,3,4,5],[])],rows:=[],bQ:=[3],bg:=[] }),
 (72,{ loops:=[(3,[0,3,4],[]),(7,[0,3,4,5,6],[]),(12,[0,3,4,5,6,7],[])],rows:=[],bQ:=[3,5],bg:=[] }),
 (73,{ loops:=[(3,[0,1,6,7],[])],rows:=[],bQ:=[6,10],bg:=[] }),
 (74,{ loops:=[(4,[0,1,2,3,10,11,12],[])],rows:=[],bQ:=[11],bg:=[] }),
 (75,{ loops:=[(2,[0,1,5],[])],rows:=[],bQ:=[],bg:=[] }),
 (76,{ loops:=[(3,[0,5,6],[])],rows:=[],bQ:=[5],bg:=[] }),
 (77,{ loops:=[(4,[0,1,5],[])],rows:=[],bQ:=[],bg:=[] }),
 (78,{ loops:=[],rows:=[],bQ:=[],bg:=[],stay:=[7] }),
 (80,{ loops:=[(2,[1,7,8,9],[])],rows:=[],bQ:=[],bg:=[] }),
 (81,{ loops:=[(11,[0,5,20,21,22],[])],rows:=[],bQ:=[],bg:=[] }),
 (82,{ loops:=[(3,[0,4,15,16,17],[4]),(10,[0,4,7,32,33,34],[4,31]),(14,[0,4,7,8,10,32,33,34,41,42,43],[4,10,31])],rows:=[4,10,31],bQ:=[],bg:=[27] }),
 (83,{ loops:=[(5,[5,6,13,14,15],[4,5,11,5080,5081,5082,5083,5084,5085]),(10,[5,6,9],[4,5,11,5080,5081,5082,5083,5084,5085]),(13,[5,6,9,10],[4,5,11,5080,5081,5082,5083,5084,5085])],rows:=[5],bQ:=[8],bg:=[12] }),
 (84,{ loops:=[(2,[1,7,8,9],[10000,10001,10002,10003,10004,10005,10006,10007,10008,20000,20001,20002,20003,20004,20005,20006,20007,20008,20009,20010,20011])],rows:=[],bQ:=[6],bg:=[] }),
 (86,{ loops:=[(3,[3,6,7,8],[3]),(5,[3,4,5,6,7,8],[3])],rows:=[3],bQ:=[],bg:=[] }),
 (87,{ loops:=[(12,[0,1,5,39,40,41],[]),(22,[1,8,63,64,65],[8,5128,5129,5130,5131,5132,5133])],rows:=[8],bQ:=[],bg:=[] }),
 (88,{ loops:=[(5,[5,6,7,17,18,19],[7])],rows:=[7],bQ:=[5],bg:=[] }),
 (89,{ loops:=[],rows:=[],bQ:=[],bg:=[7],stay:=[6,11,13] }),
 (91,{ loops:=[(3,[3,6,7,8],[])],rows:=[],bQ:=[],bg:=[] }),
 (95,{ loops:=[(4,[0,1,5],[])],rows:=[],bQ:=[],bg:=[] }),
 (96,{ loops:=[(5,[2,6,7,8],[6,7,14,5112,5113,5114,5115,5116,5117,5160,5161,5162,5163,5164,5165])],rows:=[7,10,14],bQ:=[],bg:=[],oV:=[(8,[14,5112,5113,5114,5115,5116,5117,5160,5161,5162,5163,5164,5165])] }),
 (97,{ loops:=[(3,[1,2,5,6,12,13],[2,5,6]),(9,[2,5,6,30,31,32],[2,5,6])],rows:=[5,6],bQ:=[],bg:=[],oV:=[(8,[2])] }),
 (98,{ loops:=[(3,[0,1,5,6],[5]),(8,[0,1,5,6,7,8],[5])],rows:=[5],bQ:=[],bg:=[] }),
 (99,{ loops:=[(4,[0,1,5],[])],rows:=[],bQ:=[],bg:=[] }),
 (100,{ loops:=[(2,[0,1,7,8],[10000,10001,10002,10003,10004,10005,10006,10007,10008,20000,20001,20002,20003,20004,20005,20006,20007,20008,20009,20010,20011])],rows:=[],bQ:=[],bg:=[],stay:=[7,16] }),
 (103,{ loops:=[(2,[1,2,6],[2])],rows:=[],bQ:=[],bg:=[] }),
 (104,{ loops:=[(3,[0,1,5,6],[5])],rows:=[5],bQ:=[],bg:=[] }),
 (105,{ loops:=[(3,[0,1,5,14,15],[12])],rows:=[12],bQ:=[],bg:=[] }),
 (106,{ loops:=[(3,[0,1,5,6],[5])],rows:=[5],bQ:=[],bg:=[] }),
 (108,{ loops:=[(12,[0,6,7],[])],rows:=[],bQ:=[],bg:=[] }),
 (109,{ loops:=[(3,[0,3,4],[])],rows:=[],bQ:=[3],bg:=[] }),
 (110,{ loops:=[(4,[1,7,8,9],[8])],rows:=[8],bQ:=[7,10],bg:=[] }),
 (111,{ loops:=[(3,[3,4],[7]),(6,[3,4,5],[7])],rows:=[7],bQ:=[6],bg:=[] }),
 (112,{ loops:=[(3,[0,1,2,3,9,10],[9]),(12,[9,11,12],[9])],rows:=[9],bQ:=[],bg:=[] }),
 (114,{ loops:=[(2,[0,3],[])],rows:=[],bQ:=[],bg:=[] }),
 (117,{ loops:=[(2,[0,1,7,8],[10000,10001,10002,10003,10004,10005,10006,10007,10008,20000,20001,20002,20003,20004,20005,20006,20007,20008,20009,20010,20011])],rows:=[],bQ:=[],bg:=[],stay:=[7,16] }),
 (119,{ loops:=[(3,[0,3,19,20,21],[15,10000,10001,10002,10003,10004,10005,10006,10007,10008,20000,20001,20002,20003,20004,20005,20006,20007,20008,20009,20010,20011]),(6,[0,3,19,20,21,26,27,28],[5,15,10000,10001,10002,10003,10004,10005,10006,10007,10008,20000,20001,20002,20003,20004,20005,20006,20007,20008,20009,20010,20011]),(14,[0,3,43,44,45],[15,10000,10001,10002,10003,10004,10005,10006,10007,10008,20000,20001,20002,20003,20004,20005,20006,20007,20008,20009,20010,20011]),(17,[0,3,9,43,44,45,50,51,52],[9,15,10000,10001,10002,10003,10004,10005,10006,10007,10008,20000,20001,20002,20003,20004,20005,20006,20007,20008,20009,20010,20011]),(29,[0,82],[82,10000,10001,10002,10003,10004,10005,10006,10007,10008,20000,20001,20002,20003,20004,20005,20006,20007,20008,20009,20010,20011])],rows:=[],bQ:=[],bg:=[65,100],stay:=[66,101],blk:=[(28,HO,HN)] }),
 (120,{ loops:=[(2,[1,10,11,12],[1,10000,10001,10002,10003,10004,10005,10006,10007,10008,20000,20001,20002,20003,20004,20005,20006,20007,20008,20009,20010,20011])],rows:=[],bQ:=[],bg:=[20],stay:=[18,21] }),
 (121,{ loops:=[(2,[0,15,16],[10000,10001,10002,10003,10004,10005,10006,10007,10008,20000,20001,20002,20003,20004,20005,20006,20007,20008,20009,20010,20011]),(7,[0,4,5,15,16,25,26,27],[4,10000,10001,10002,10003,10004,10005,10006,10007,10008,20000,20001,20002,20003,20004,20005,20006,20007,20008,20009,20010,20011])],rows:=[4],bQ:=[8],bg:=[],oV:=[(16,[4])],stay:=[21] }),
 (122,{ loops:=[(3,[0,1,5,6],[5])],rows:=[5],bQ:=[],bg:=[] }),
 (124,{ loops:=[(2,[0,1,5],[])],rows:=[],bQ:=[],bg:=[] }),
 (125,{ loops:=[(2,[1,2,6],[2])],rows:=[],bQ:=[],bg:=[] }),
 (126,{ loops:=[(4,[0,5,6,7],[5]),(9,[0,5,6,7,8,9,10],[5])],rows:=[5],bQ:=[6,8],bg:=[] }),
 (128,{ loops:=[(2,[0,3],[])],rows:=[18],bQ:=[],bg:=[] }),
 (129,{ loops:=[(2,[0,1,7,8],[10000,10001,10002,10003,10004,10005,10006,10007,10008,20000,20001,20002,20003,20004,20005,20006,20007,20008,20009,20010,20011])],rows:=[],bQ:=[],bg:=[],stay:=[7,16] }),
 (132,{ loops:=[(3,[3,9,10,11],[8])],rows:=[],bQ:=[],bg:=[] }),
 (133,{ loops:=[(3,[3,12,13,14],[]),(6,[3,5,12,13,14,19,20,21],[5])],rows:=[],bQ:=[8],bg:=[] }),
 (134,{ loops:=[(5,[3,4,5,18,19,20],[5,16,17]),(11,[3,4,5,7,18,19,20,40,41,42],[5,7,16,17]),(17,[3,4,5,10],[5,10,16,17]),(22,[3,4,5,10,71,72,73],[5,10,16,17])],rows:=[5,10,17,46,48],bQ:=[],bg:=[62],oV:=[(16,[17])] }),
 (135,{ loops:=[],rows:=[],bQ:=[],bg:=[5],stay:=[4,9,10] }),
 (136,{ loops:=[(3,[1,5,15,16,17],[14]),(9,[1,5,7,15,16,17,34,35,36],[7,14])],rows:=[14,30,40,42],bQ:=[8],bg:=[],oV:=[(14,[14])] }),
 (137,{ loops:=[(3,[0,1,6,7,8],[])],rows:=[],bQ:=[],bg:=[],stay:=[11,27,47,50] }),
 (138,{ loops:=[(3,[0,4,10,11,12],[]),(11,[7,30,31,32],[29])],rows:=[29],bQ:=[],bg:=[] }),
 (140,{ loops:=[(3,[3,11,12,13],[10]),(6,[3,5,6,11,12,13],[10])],rows:=[10],bQ:=[],bg:=[] }),
 (145,{ loops:=[(4,[5,6,13,14,15],[6])],rows:=[6],bQ:=[9],bg:=[31,33] }),
 (146,{ loops:=[(3,[3,9,10,11],[8])],rows:=[],bQ:=[],bg:=[] }),
 (147,{ loops:=[(7,[0,7,8,9],[20,24]),(10,[0,7,8,9,36,37,38],[20,24])],rows:=[24],bQ:=[5],bg:=[53] }),
 (149,{ loops:=[],rows:=[],bQ:=[],bg:=[],stay:=[7] }),
 (150,{ loops:=[],rows:=[],bQ:=[],bg:=[],stay:=[7] }),
 (151,{ loops:=[(2,[0,1,2,3,4,10,11],[10000,10001,10002,10003,10004,10005,10006,10007,10008,20000,20001,20002,20003,20004,20005,20006,20007,20008,20009,20010,20011])],rows:=[],bQ:=[],bg:=[26,33,40,57,76,98,106,129,140],stay:=[30,37,44,52,61,80,94,103,111,134,146] }),
 (156,{ loops:=[],rows:=[],bQ:=[],bg:=[],stay:=[7] }),
 (158,{ loops:=[(3,[0,1,5,6],[5])],rows:=[5],bQ:=[],bg:=[] }),
 (159,{ loops:=[(4,[0,3],[])],rows:=[],bQ:=[],bg:=[] }),
 (160,{ loops:=[(2,[0,3],[])],rows:=[],bQ:=[],bg:=[] }),
 (161,{ loops:=[(2,[0,3],[]),(6,[0,3,4,5],[])],rows:=[],bQ:=[4],bg:=[] }),
 (162,{ loops:=[(3,[0,3,4],[3]),(7,[0,3,4,5,6],[3])],rows:=[3],bQ:=[],bg:=[] }),
 (163,{ loops:=[(5,[0,5,6],[15]),(8,[0,5,6,7],[15]),(14,[5,8,9],[15])],rows:=[15],bQ:=[8],bg:=[] }),
 (164,{ loops:=[(3,[0,4,5],[6])],rows:=[6],bQ:=[],bg:=[] }),
 (165,{ loops:=[(2,[0,1,5],[])],rows:=[],bQ:=[],bg:=[] }),
 (169,{ loops:=[(2,[1,7,8,9],[10000,10001,10002,10003,10004,10005,10006,10007,10008,20000,20001,20002,20003,20004,20005,20006,20007,20008,20009,20010,20011])],rows:=[],bQ:=[],bg:=[] }),
 (172,{ loops:=[],rows:=[],bQ:=[],bg:=[],stay:=[7] }),
 (174,{ loops:=[(3,[0,3,5,11,12,13],[3,5,10000,10001,10002,10003,10004,10005,10006,10007,10008,20000,20001,20002,20003,20004,20005,20006,20007,20008,20009,20010,20011])],rows:=[5],bQ:=[],bg:=[],oV:=[(2,[3])],stay:=[20] }),
 (175,{ loops:=[(2,[0,1,7,8],[10000,10001,10002,10003,10004,10005,10006,10007,10008,20000,20001,20002,20003,20004,20005,20006,20007,20008,20009,20010,20011])],rows:=[],bQ:=[],bg:=[],stay:=[7,16] }),
 (176,{ loops:=[],rows:=[],bQ:=[],bg:=[6],stay:=[7] }),
 (178,{ loops:=[(4,[1,2,5,6,16,17,18],[2,5,11,10000,10001,10002,10003,10004,10005,10006,10007,10008,20000,20001,20002,20003,20004,20005,20006,20007,20008,20009,20010,20011]),(8,[1,2,5,6,16,17,18,36,37,38],[2,5,8,11,10000,10001,10002,10003,10004,10005,10006,10007,10008,20000,20001,20002,20003,20004,20005,20006,20007,20008,20009,20010,20011])],rows:=[],bQ:=[],bg:=[12],stay:=[33],keep:=[10001,10002,10003,10004] }),
 (179,{ loops:=[(4,[0,1,5],[])],rows:=[],bQ:=[],bg:=[] }),
 (180,{ loops:=[(3,[0,1,5,6],[])],rows:=[],bQ:=[5],bg:=[] }),
 (181,{ loops:=[(5,[0,5,6],[16]),(9,[0,5,6,7,8],[16]),(15,[5,9,10],[16])],rows:=[16],bQ:=[7,9],bg:=[] }),
 (182,{ loops:=[],rows:=[],bQ:=[],bg:=[],stay:=[7] }),
 (185,{ loops:=[(5,[0,3,4],[])],rows:=[],bQ:=[],bg:=[],stay:=[6,14,23] }),
 (186,{ loops:=[(5,[0,1,5,6],[10000,10001,10002,10003,10004,10005,10006,10007,10008,20000,20001,20002,20003,20004,20005,20006,20007,20008,20009,20010,20011])],rows:=[],bQ:=[],bg:=[],stay:=[10,18,28] }),
 (188,{ loops:=[(2,[0,1,2,3,8,9],[10000])],rows:=[],bQ:=[],bg:=[24,30,36,51,69,88,95,117,127],stay:=[27,33,39,46,54,72,85,92,99,121,132] }),
 (192,{ loops:=[],rows:=[],bQ:=[4],bg:=[] }),
 (193,{ loops:=[(4,[0,3],[10000]),(9,[0,3,4,5],[10000])],rows:=[],bQ:=[4],bg:=[],stay:=[7,12,31] }),
 (194,{ loops:=[(2,[0,1,7,8],[])],rows:=[],bQ:=[],bg:=[],stay:=[7] }),
 (195,{ loops:=[(2,[0,1,7,8],[10000,10001,10002,10003,10004,10005,10006,10007,10008,20000,20001,20002,20003,20004,20005,20006,20007,20008,20009,20010,20011])],rows:=[],bQ:=[],bg:=[],stay:=[7,16] }),
 (196,{ loops:=[(1,[0,1,2,3,8],[10000,10001,10002,10003,10004,10005,10006,10007,10008,20000,20001,20002,20003,20004,20005,20006,20007,20008,20009,20010,20011]),(4,[0,1,2,3,8,9],[10000,10001,10002,10003,10004,10005,10006,10007,10008,20000,20001,20002,20003,20004,20005,20006,20007,20008,20009,20010,20011])],rows:=[],bQ:=[],bg:=[],stay:=[32] }),
 (197,{ loops:=[(4,[0,3,8,9,10,11],[10000,10001,10002,10003,10004,10005,10006,10007,10008,20000,20001,20002,20003,20004,20005,20006,20007,20008,20009,20010,20011]),(8,[0,3,8,9,12],[10000,10001,10002,10003,10004,10005,10006,10007,10008,20000,20001,20002,20003,20004,20005,20006,20007,20008,20009,20010,20011])],rows:=[],bQ:=[],bg:=[24,54],stay:=[29,59] }),
 (198,{ loops:=[(5,[0,1,8,9,10,11],[9,10000,10001,10002,10003,10004,10005,10006,10007,10008,20000,20001,20002,20003,20004,20005,20006,20007,20008,20009,20010,20011])],rows:=[],bQ:=[],bg:=[],stay:=[21,38] }),
 (199,{ loops:=[],rows:=[],bQ:=[],bg:=[],stay:=[40,44,48,54] }),
 (200,{ loops:=[(2,[0,8,9],[10000,10001,10002,10003,10004,10005,10006,10007,10008,20000,20001,20002,20003,20004,20005,20006,20007,20008,20009,20010,20011])],rows:=[],bQ:=[],bg:=[] }),
 (201,{ loops:=[(3,[0,1,2,3,9,10],[10000,10001,10002,10003,10004,10005,10006,10007,10008,20000,20001,20002,20003,20004,20005,20006,20007,20008,20009,20010,20011]),(5,[0,1,2,3,9,10],[10000,10001,10002,10003,10004,10005,10006,10007,10008,20000,20001,20002,20003,20004,20005,20006,20007,20008,20009,20010,20011]),(14,[0,1,2,3,9,10,11],[10000,10001,10002,10003,10004,10005,10006,10007,10008,20000,20001,20002,20003,20004,20005,20006,20007,20008,20009,20010,20011]),(20,[0,1,2,3,9,10,12],[10000,10001,10002,10003,10004,10005,10006,10007,10008,20000,20001,20002,20003,20004,20005,20006,20007,20008,20009,20010,20011])],rows:=[],bQ:=[],bg:=[],stay:=[33,82,122] }),
 (202,{ loops:=[(3,[0,1,4,11,12],[10000,10001,10002,10003,10004,10005,10006,10007,10008,20000,20001,20002,20003,20004,20005,20006,20007,20008,20009,20010,20011]),(5,[0,1,4,11,12],[10000,10001,10002,10003,10004,10005,10006,10007,10008,20000,20001,20002,20003,20004,20005,20006,20007,20008,20009,20010,20011])],rows:=[],bQ:=[],bg:=[],stay:=[44,63] }),
 (203,{ loops:=[(3,[0,1,4,12,13],[10000,10001,10002,10003,10004,10005,10006,10007,10008,20000,20001,20002,20003,20004,20005,20006,20007,20008,20009,20010,20011]),(5,[0,1,4,12,13],[10000,10001,10002,10003,10004,10005,10006,10007,10008,20000,20001,20002,20003,20004,20005,20006,20007,20008,20009,20010,20011]),(13,[0,1,4,12,13],[10000,10001,10002,10003,10004,10005,10006,10007,10008,20000,20001,20002,20003,20004,20005,20006,20007,20008,20009,20010,20011]),(15,[0,1,4,12,13],[10000,10001,10002,10003,10004,10005,10006,10007,10008,20000,20001,20002,20003,20004,20005,20006,20007,20008,20009,20010,20011])],rows:=[],bQ:=[],bg:=[],stay:=[45,63,118,136] }),
 (207,{ loops:=[(2,[0,1,5],[])],rows:=[],bQ:=[],bg:=[] }),
 (208,{ loops:=[(2,[1,2,5],[2])],rows:=[],bQ:=[],bg:=[] }),
 (209,{ loops:=[(3,[0,3,4],[3])],rows:=[3],bQ:=[],bg:=[] }),
 (210,{ loops:=[(4,[1,16],[16,10000,10001,10002,10003,10004,10005,10006,10007,10008,20000,20001,20002,20003,20004,20005,20006,20007,20008,20009,20010,20011])],rows:=[],bQ:=[],bg:=[] }),
 (212,{ loops:=[(2,[0,1,7,8],[10000,10001,10002,10003,10004,10005,10006,10007,10008,20000,20001,20002,20003,20004,20005,20006,20007,20008,20009,20010,20011])],rows:=[],bQ:=[],bg:=[],stay:=[7,16] }),
 (214,{ loops:=[],rows:=[],bQ:=[4,5],bg:=[],stay:=[10] }),
 (218,{ loops:=[(2,[0,1,7,8],[10000,10001,10002,10003,10004,10005,10006,10007,10008,20000,20001,20002,20003,20004,20005,20006,20007,20008,20009,20010,20011])],rows:=[],bQ:=[],bg:=[],stay:=[7,16] }),
 (220,{ loops:=[(1,[0,1,2,6],[10000]),(4,[0,1,2,6,7],[10000])],rows:=[],bQ:=[],bg:=[],stay:=[29] }),
 (221,{ loops:=[(4,[0,6,7,8,9],[10000]),(8,[0,6,7,10],[10000])],rows:=[],bQ:=[],bg:=[22,51],stay:=[26,55] }),
 (222,{ loops:=[(5,[0,1,6,7,8,9],[7,10000])],rows:=[],bQ:=[],bg:=[],stay:=[19,36] }),
 (223,{ loops:=[],rows:=[],bQ:=[],bg:=[],stay:=[37,40,43,48] }),
 (224,{ loops:=[(2,[0,6,7],[10000])],rows:=[],bQ:=[],bg:=[] }),
 (225,{ loops:=[(3,[0,1,2,7,8],[10000]),(5,[0,1,2,7,8],[10000]),(14,[0,1,2,7,8,9],[10000]),(20,[0,1,2,7,8,10],[10000])],rows:=[],bQ:=[],bg:=[],stay:=[30,77,115] }),
 (226,{ loops:=[(3,[0,1,9,10],[10000]),(5,[0,1,9,10],[10000])],rows:=[],bQ:=[],bg:=[],stay:=[41,58] }),
 (227,{ loops:=[(3,[0,1,10,11],[10000]),(5,[0,1,10,11],[10000]),(13,[0,1,10,11],[10000]),(15,[0,1,10,11],[10000])],rows:=[],bQ:=[],bg:=[],stay:=[42,58,111,127] }),
 (230,{ loops:=[(1,[0,2,3,4,10],[10000,10001,10002,10003,10004,10005,10006,10007,10008,20000,20001,20002,20003,20004,20005,20006,20007,20008,20009,20010,20011])],rows:=[],bQ:=[],bg:=[],stay:=[38,56] }),
 (231,{ loops:=[],rows:=[],bQ:=[],bg:=[],stay:=[5] }),
 (233,{ loops:=[],rows:=[],bQ:=[],bg:=[],stay:=[17] }),
 (234,{ loops:=[],rows:=[],bQ:=[],bg:=[],stay:=[19,28,37] }),
 (238,{ loops:=[(1,[0,2,3,8],[10000])],rows:=[],bQ:=[],bg:=[],stay:=[35,51] }),
 (239,{ loops:=[],rows:=[],bQ:=[],bg:=[],stay:=[14] }),
 (240,{ loops:=[],rows:=[],bQ:=[],bg:=[],stay:=[16,24,32] }),
 (241,{ loops:=[],rows:=[],bQ:=[],bg:=[],stay:=[21] }),
 (242,{ loops:=[],rows:=[],bQ:=[],bg:=[],stay:=[18] })]
def H (f:Nat):Hint:=(find hints f).getD {}
def jg (sep:List UInt8):List (List UInt8)→List UInt8
 |[]=>[]
 |[x]=>x
 |x::xs=>x++sep++jg sep xs
def strs:List (List AV)→Option (List (List UInt8))
 |[]=>some []
 |[.str s]::l=>(strs l).map (s:: ·)
 |_=>none
def tz:Nat→Nat→Nat
 |0,_=>0
 |k+1,n=>bif Nat.beq (n % 2) 1 then 0 else 1+tz k (n / 2)
def CW:List (List AV)→Option Nat
 |[]=>some 0
 |[[.int .u64 (.ofNat m)]]=>bif Nat.blt 0 m&&Nat.blt m 18446744073709551616 then some m else none
 |_=>none
def c4:Nat→Nat→Nat
 |0,_=>0
 |k+1,n=>n % 2+c4 k (n / 2)
abbrev iC:=List UInt8×Nat
def u5:List (List AV)→Option (List iC)
 |[]=>some []
 |[.str s, .cm 1 ws]::l=>match CW ws,u5 l with
  |some w,some r=>some ((s,w)::r)
  |_,_=>none
 |_=>none
def zK (p q:iC):Bool:=Nat.blt (c4 64 q.2) (c4 64 p.2)||(Nat.beq (c4 64 p.2) (c4 64 q.2)&&Op.bytesLess p.1 q.1)
def ni:List iC→Bool
 |[]=>true
 |x::l=>l.all (fun y=>zK x y||zK y x)&&ni l
def iC.enc (p:iC):List AV:=[.str p.1, .cm 1 (bif Nat.beq p.2 0 then [] else [[.int .u64 (p.2:Int)]])]
def Ey:dm:=fun f args bU=>match f,args,bU with
 |87,[.pv (.cm 1 xs), .pv (.str sep)],[]=>match strs xs with
  |some l=>bif Nat.ble (jg sep l).length 140737488355328&&Nat.ble l.length 140737488355328 then some (.str (jg sep l),[]) else none
  |none=>none
 |141,[.pv (.int .u64 n)],[]=>match n with
  | .ofNat m=>bif Nat.blt m 18446744073709551616 then some (.int .i64 (tz 64 m:Nat),[]) else none
  | .negSucc _=>none
 |135,[.row 10000],[(10000, .row 9 1 xs)]=>match strs xs with
  |some l=>bif Nat.ble l.length 1073741824 then some (.fG [],[(10000, .row 9 1 ((eA Op.bytesLess l).map aA))]) else none
  |none=>none
 |_,_,_=>none
def dg:dm:=fun f args bU=>match f,args,bU with
 |89,[.row 10000, .pv (.fn 90 [])],[(10000, .row 108 2 xs)]=>match u5 xs with
  |some l=>bif ni l&&Nat.ble l.length 1073741824 then some (.fG [],[(10000, .row 108 2 ((eA zK l).map iC.enc))]) else none
  |none=>none
 |f,args,bU=>Ey f args bU
noncomputable abbrev Rn:dm:=run P H dg
abbrev pT (l:List af):SV:= .pv (.cm 3 (List.map af.enc l))
abbrev pC (l:List aq):SV:= .pv (.cm 2 (List.map aq.enc l))
abbrev pF (l:List aj):SV:= .pv (.cm 2 (List.map aj.enc l))
abbrev pP (l:List au):SV:= .pv (.cm 2 (List.map au.enc l))
abbrev pS (l:List (List UInt8)):SV:= .pv (.cm 1 (List.map aA l))
abbrev pN (l:List Int):SV:= .pv (.cm 1 (List.map (aB .i64) l))
abbrev pU (l:List Int):SV:= .pv (.cm 1 (List.map (aB .u64) l))
abbrev pI (x:Int):SV:= .pv (.int .i64 x)
abbrev oS (l:List (List UInt8)):Ob:= .row 9 1 (List.map aA l)
abbrev oI (l:List Int):Ob:= .row 3 1 (List.map (aB .i64) l)
abbrev oA (l:List (List au)):Ob:= .row 35 1 (List.map (bS 2 au.enc) l)
abbrev oM (k e:TypeId) (K V:iE) (x:List (K.T×V.T)):Ob:= .mp k e (aO K V x).1 (aO K V x).2
abbrev sB:Type:=List UInt8
theorem lb {T:Type} {E:T→Out} [c6 E] {raw:Option Out} {t:Option T} {r:T} {f:Nat} {args:List SV} {bU:List (Nat×Ob)} (ht:t=some r) (hi:cE E raw t) (hk:Qf P qh H dg f args bU=raw) (hp:dg f args bU=none):dec E (run P H dg f args bU)=some r:=
 rX ht hi hk (fun h=>kH (C:=qh) hp h)
theorem lh {T:Type} {E:T→Out} [c6 E] {raw:Option Out} {t:Option T} {r:T} {f key:Nat} {names:List Nat} {env:List (Nat×SV)} {ob:List (Nat×Ob)} (ht:t=some r) (hi:cE E raw t) (hk:L0 P qh H dg f key names env ob=raw):dec E (zC P qh H dg f key names env ob)=some r:=
 rX ht hi hk (fun h=>u9 h)
noncomputable abbrev hT:=zC P qh H dg
abbrev oB (x:List af) (y:List aq) (a b c d:Nat):Ob:= .box 101 [pT x,pC y, .row a, .row b, .row c, .row d]
end Go.Proofs.YtmidjldjkbljjaaGreatDoor.cl
