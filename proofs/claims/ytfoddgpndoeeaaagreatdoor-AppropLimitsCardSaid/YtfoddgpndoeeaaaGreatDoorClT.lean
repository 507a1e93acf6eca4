/- The types and codecs of the program, by program (decomp4.py). -/
import Derived.Test.YtfoddgpndoeeaaaGreatDoorProg
import Derived.Test.YtfoddgpndoeeaaaGreatDoorAmL
import Derived.Test.YtfoddgpndoeeaaaGreatDoorAmP
import Derived.KernelRfl
set_option linter.unusedVariables false
set_option linter.unusedSimpArgs false
set_option maxRecDepth 100000
namespace Go.Proofs.YtfoddgpndoeeaaaGreatDoor.cl
open Go Go.AM
noncomputable abbrev P:Program:=Tryz.prog
def strOf:AV→List UInt8
 | .str s=>s
 |_=>[]
def isStr:AV→Bool
 | .str _=>true
 |_=>false
def rq:List AV→List UInt8
 |[a]=>strOf a
 |_=>[]
def xx:List AV→Bool
 |[a]=>isStr a
 |_=>false
def Ho (xs:List (List AV)) (ks:List AV):Bool:=xs.all xx&&ks.all isStr&&Nat.ble (xs.length+ks.length) 1073741824
def PL (xs:List (List AV)) (ks:List AV):List (List AV):=(dP Op.bytesLess (xs.map rq++ks.map strOf)).map aI
def Fh (st:St):Bool:=match st.env 0,st.env 3,st.ob 10000 with
 |some (.ptr 10000 0),some (.row 15),some (.box 78 [.pv _, .pv _, .row 10001, .row 20002, .row 20003, .row 20004])=>
  match st.ob 15,st.ob 20002,st.ob 10001,st.ob 20003,st.ob 20004 with
  |some (.mp 9 4 ks _),some (.row 9 1 xs),some (.mp 9 3 _ _),some (.row 3 1 _),some (.row 87 1 _)=>Ho xs ks
  |_,_,_,_,_=>false
 |_,_,_=>false
def Fg (st:St):Nat×St:=match st.ob 15,st.ob 20002,st.ob 10000,st.ob 10001,st.ob 20003,st.ob 20004 with
 |some (.mp _ _ ks _),some (.row _ _ xs),some o0,some o1,some o3,some o4=>(1,{ env:=find [(2, .pv (.int .i64 0))],ob:=find [(10000,o0),(10001,o1),(20002, .row 9 1 (PL xs ks)),(20003,o3),(20004,o4)] })
 |_,_,_,_,_,_=>(1,st)
theorem Mz (V:gN) {X:List (List UInt8)} {Y:List (List UInt8×V.T)} (h:X.length+Y.length≤1073741824):Ho (X.map aI) (az ⟨List UInt8,AV.str⟩ V Y).1=true:=by
 unfold Ho;simp only [Bool.and_eq_true,List.all_eq_true,List.mem_map];refine ⟨⟨?_,?_⟩,?_⟩
 ·rintro _ ⟨x,_,rfl⟩;rfl
 ·intro a ha
  simp only [az,List.mem_map] at ha;obtain ⟨p,_,rfl⟩:=ha;rfl
 ·rw [Nat.ble_eq];simpa [az] using h
theorem MB {V:gN} (X:List (List UInt8)) (Y:List (List UInt8×V.T)):PL (X.map aI) (az ⟨List UInt8,AV.str⟩ V Y).1=(dP Op.bytesLess (X++Y.map Prod.fst)).map aI:=by
 unfold PL;have e1:(X.map aI).map rq=X:=by
  rw [List.map_map];exact (List.map_congr_left (fun x _=>rfl)).trans (List.map_id X)
 have e2:(az ⟨List UInt8,AV.str⟩ V Y).1.map strOf=Y.map Prod.fst:=by
  simp only [az,List.map_map];exact List.map_congr_left (fun x _=>rfl)
 rw [e1,e2]
abbrev V3:gN:=⟨Int,AV.int .i64⟩
instance:c4 V3.enc:=⟨fun a b h=>by
 injection h⟩
instance:sZ V3:=⟨fun a b=>⟨(inferInstance:DecidableEq (Int)) a b,by
 simp only [mA,if_true]
 first|rfl|(congr 1;first|rfl|(rw [Bool.eq_iff_iff];simp))⟩⟩
abbrev V4:gN:=⟨Bool,AV.bool⟩
instance:c4 V4.enc:=⟨fun a b h=>by
 injection h⟩
instance:sZ V4:=⟨fun a b=>⟨(inferInstance:DecidableEq (Bool)) a b,by
 simp only [mA,if_true]
 first|rfl|(congr 1;first|rfl|(rw [Bool.eq_iff_iff];simp))⟩⟩
abbrev V9:gN:=⟨List UInt8,AV.str⟩
instance:c4 V9.enc:=⟨fun a b h=>by
 injection h⟩
instance:sZ V9:=⟨fun a b=>⟨(inferInstance:DecidableEq (List UInt8)) a b,by
 simp only [mA,if_true]
 first|rfl|(congr 1;first|rfl|(rw [Bool.eq_iff_iff];simp))⟩⟩
structure ah where
 dw:List UInt8
 Value:List UInt8
 deriving Inhabited
def ah.enc (x:ah):List AV:=[.str x.dw, .str x.Value]
theorem ah.inj:∀(a b:ah),ah.enc a=ah.enc b→a=b:=by
 intro a b h;obtain ⟨Ml,G9⟩:=a;obtain ⟨Mt,Hj⟩:=b;simp only [ah.enc,List.cons.injEq,AV.int.injEq,AV.str.injEq,AV.bool.injEq,AV.cE.injEq,AV.mp.injEq,true_and,and_true] at h;obtain ⟨h0,h1⟩:=h;change Ml=Mt at h0;change G9=Hj at h1;subst h0 h1;rfl
instance:c4 ah.enc:=⟨ah.inj⟩
structure af where
 Name:List UInt8
 aA:List (List UInt8)
 bT:List ah
 deriving Inhabited
def af.enc (x:af):List AV:=[.str x.Name, .cE 1 (List.map aI x.aA), .cE 2 (List.map ah.enc x.bT)]
theorem af.inj:∀(a b:af),af.enc a=af.enc b→a=b:=by
 intro a b h;obtain ⟨ED,PB,Sa⟩:=a;obtain ⟨EI,PK,Sh⟩:=b;simp only [af.enc,List.cons.injEq,AV.int.injEq,AV.str.injEq,AV.bool.injEq,AV.cE.injEq,AV.mp.injEq,true_and,and_true] at h;obtain ⟨h0,h1,h2⟩:=h
 replace h1:=map_inj c4.inj _ _ h1
 replace h2:=map_inj c4.inj _ _ h2
 change ED=EI at h0;change PB=PK at h1;change Sa=Sh at h2;subst h0 h1 h2;rfl
instance:c4 af.enc:=⟨af.inj⟩
structure bC where
 Name:List UInt8
 Intro:Int
 deriving Inhabited
def bC.enc (x:bC):List AV:=[.str x.Name, .int .i64 x.Intro]
theorem bC.inj:∀(a b:bC),bC.enc a=bC.enc b→a=b:=by
 intro a b h;obtain ⟨ED,Sb⟩:=a;obtain ⟨EI,Si⟩:=b;simp only [bC.enc,List.cons.injEq,AV.int.injEq,AV.str.injEq,AV.bool.injEq,AV.cE.injEq,AV.mp.injEq,true_and,and_true] at h;obtain ⟨h0,h1⟩:=h;change ED=EI at h0;change Sb=Si at h1;subst h0 h1;rfl
instance:c4 bC.enc:=⟨bC.inj⟩
structure aB where
 Name:List UInt8
 Code:List Int
 deriving Inhabited
def aB.enc (x:aB):List AV:=[.str x.Name, .cE 1 (List.map (aJ .u64) x.Code)]
theorem aB.inj:∀(a b:aB),aB.enc a=aB.enc b→a=b:=by
 intro a b h;obtain ⟨ED,Ut⟩:=a;obtain ⟨EI,Ux⟩:=b;simp only [aB.enc,List.cons.injEq,AV.int.injEq,AV.str.injEq,AV.bool.injEq,AV.cE.injEq,AV.mp.injEq,true_and,and_true] at h;obtain ⟨h0,h1⟩:=h
 replace h1:=map_inj c4.inj _ _ h1
 change ED=EI at h0;change Ut=Ux at h1;subst h0 h1;rfl
instance:c4 aB.enc:=⟨aB.inj⟩
structure ai where
 dw:Int
 Value:Int
 deriving Inhabited
def ai.enc (x:ai):List AV:=[.int .i64 x.dw, .int .i64 x.Value]
theorem ai.inj:∀(a b:ai),ai.enc a=ai.enc b→a=b:=by
 intro a b h;obtain ⟨Ml,G9⟩:=a;obtain ⟨Mt,Hj⟩:=b;simp only [ai.enc,List.cons.injEq,AV.int.injEq,AV.str.injEq,AV.bool.injEq,AV.cE.injEq,AV.mp.injEq,true_and,and_true] at h;obtain ⟨h0,h1⟩:=h;change Ml=Mt at h0;change G9=Hj at h1;subst h0 h1;rfl
instance:c4 ai.enc:=⟨ai.inj⟩
structure table where
 d:List af
 codes:List aB
 number:List ((List UInt8)×Int)
 uu:List (List UInt8)
 intro:List Int
 values:List (List ai)
 deriving Inhabited
def table.enc (x:table):List AV:=[.cE 3 (List.map af.enc x.d), .cE 2 (List.map aB.enc x.codes), .mp (az V9 V3 x.number).1 (az V9 V3 x.number).2, .cE 1 (List.map aI x.uu), .cE 1 (List.map (aJ .i64) x.intro), .cE 1 (List.map (ct 2 ai.enc) x.values)]
theorem table.inj:∀(a b:table),table.enc a=table.enc b→a=b:=by
 intro a b h;obtain ⟨ad,Sc,PE,Sd,Se,PJ⟩:=a;obtain ⟨bd,Sj,PR,Sk,Sl,PS⟩:=b;simp only [table.enc,List.cons.injEq,AV.int.injEq,AV.str.injEq,AV.bool.injEq,AV.cE.injEq,AV.mp.injEq,true_and,and_true] at h;obtain ⟨h0,h1,h2,h3,h4,h5⟩:=h
 replace h0:=map_inj c4.inj _ _ h0
 replace h1:=map_inj c4.inj _ _ h1
 replace h2:=hG (K:=V9) (V:=V3) h2.1 h2.2
 replace h3:=map_inj c4.inj _ _ h3
 replace h4:=map_inj c4.inj _ _ h4
 replace h5:=map_inj c4.inj _ _ h5
 change ad=bd at h0;change Sc=Sj at h1;change PE=PR at h2;change Sd=Sk at h3;change Se=Sl at h4;change PJ=PS at h5;subst h0 h1 h2 h3 h4 h5;rfl
instance:c4 table.enc:=⟨table.inj⟩
abbrev C9:yD:=⟨List UInt8,aI⟩
abbrev C37:yD:=⟨ah,ah.enc⟩
abbrev C25:yD:=⟨af,af.enc⟩
abbrev C5:yD:=⟨Int,(aJ .u8)⟩
abbrev C51:yD:=⟨aB,aB.enc⟩
abbrev C80:yD:=⟨bC,bC.enc⟩
abbrev C49:yD:=⟨List (Int),(ct 1 (aJ .u64))⟩
abbrev C65:yD:=⟨Int,(aJ .u64)⟩
abbrev C3:yD:=⟨Int,(aJ .i64)⟩
abbrev C87:yD:=⟨List (ai),(ct 2 ai.enc)⟩
abbrev C86:yD:=⟨ai,ai.enc⟩
abbrev jm:gN:=⟨List (List UInt8),(fun x=>AV.cE 1 (x.map aI))⟩
instance:c4 jm.enc:=⟨fun a b h=>by
 injection h with _ h
 exact map_inj c4.inj _ _ h⟩
abbrev nH:gN:=⟨List Int,(fun x=>AV.cE 1 (x.map (aJ .u64)))⟩
instance:c4 nH.enc:=⟨fun a b h=>by
 injection h with _ h
 exact map_inj c4.inj _ _ h⟩
def Q0:((List UInt8)×(List (List UInt8)))→AV:=(fun (x:(List UInt8)×(List (List UInt8)))=>((.agg [(.str x.1),(.cE 1 (List.map aI x.2)), .jL]):AV))
instance:c4 Q0:=⟨fun a b h=>by
 obtain ⟨a0,a1⟩:=a;obtain ⟨b0,b1⟩:=b;simp only [Q0,AV.mp.injEq,AV.int.injEq,AV.str.injEq,AV.bool.injEq,AV.cE.injEq,AV.agg.injEq,AV.e9.injEq,List.cons.injEq,true_and,and_true] at h;obtain ⟨h0,h1⟩:=h
 replace h0:a0=b0:=h0
 replace h1:a1=b1:=map_inj c4.inj _ _ h1
 subst h0 h1
 rfl⟩
def Q1:Bool→AV:=(fun (x:Bool)=>((.bool x):AV))
instance:c4 Q1:=⟨fun a b h=>by
 simp only [Q1,AV.mp.injEq,AV.int.injEq,AV.str.injEq,AV.bool.injEq,AV.cE.injEq,AV.agg.injEq,AV.e9.injEq,List.cons.injEq,true_and,and_true] at h
 exact h⟩
def Q2:((List bC)×Int)→AV:=(fun (x:(List bC)×Int)=>((.e9 [(.cE 2 (List.map bC.enc x.1)),(.int .i64 x.2)]):AV))
instance:c4 Q2:=⟨fun a b h=>by
 obtain ⟨a0,a1⟩:=a;obtain ⟨b0,b1⟩:=b;simp only [Q2,AV.mp.injEq,AV.int.injEq,AV.str.injEq,AV.bool.injEq,AV.cE.injEq,AV.agg.injEq,AV.e9.injEq,List.cons.injEq,true_and,and_true] at h;obtain ⟨h0,h1⟩:=h
 replace h0:a0=b0:=map_inj c4.inj _ _ h0
 replace h1:a1=b1:=h1
 subst h0 h1
 rfl⟩
def Q3:Int→AV:=(fun (x:Int)=>((.int .i64 x):AV))
instance:c4 Q3:=⟨fun a b h=>by
 simp only [Q3,AV.mp.injEq,AV.int.injEq,AV.str.injEq,AV.bool.injEq,AV.cE.injEq,AV.agg.injEq,AV.e9.injEq,List.cons.injEq,true_and,and_true] at h
 exact h⟩
def Q4:((Option table)×Int)→AV:=(fun (x:(Option table)×Int)=>((.e9 [(x5 table.enc x.1),(.int .i64 x.2)]):AV))
instance:c4 Q4:=⟨fun a b h=>by
 obtain ⟨a0,a1⟩:=a;obtain ⟨b0,b1⟩:=b;simp only [Q4,AV.mp.injEq,AV.int.injEq,AV.str.injEq,AV.bool.injEq,AV.cE.injEq,AV.agg.injEq,AV.e9.injEq,List.cons.injEq,true_and,and_true] at h;obtain ⟨h0,h1⟩:=h
 replace h0:a0=b0:=c4.inj _ _ h0
 replace h1:a1=b1:=h1
 subst h0 h1
 rfl⟩
def Q5:af→AV:=(fun (x:af)=>((.agg (af.enc x)):AV))
instance:c4 Q5:=⟨fun a b h=>by
 simp only [Q5,AV.mp.injEq,AV.int.injEq,AV.str.injEq,AV.bool.injEq,AV.cE.injEq,AV.agg.injEq,AV.e9.injEq,List.cons.injEq,true_and,and_true] at h
 exact c4.inj _ _ h⟩
def Q6:((List (List ai))×Int)→AV:=(fun (x:(List (List ai))×Int)=>((.e9 [(.cE 1 (List.map (ct 2 ai.enc) x.1)),(.int .i64 x.2)]):AV))
instance:c4 Q6:=⟨fun a b h=>by
 obtain ⟨a0,a1⟩:=a;obtain ⟨b0,b1⟩:=b;simp only [Q6,AV.mp.injEq,AV.int.injEq,AV.str.injEq,AV.bool.injEq,AV.cE.injEq,AV.agg.injEq,AV.e9.injEq,List.cons.injEq,true_and,and_true] at h;obtain ⟨h0,h1⟩:=h
 replace h0:a0=b0:=map_inj c4.inj _ _ h0
 replace h1:a1=b1:=h1
 subst h0 h1
 rfl⟩
def Q7:((List aB)×Int)→AV:=(fun (x:(List aB)×Int)=>((.e9 [(.cE 2 (List.map aB.enc x.1)),(.int .i64 x.2)]):AV))
instance:c4 Q7:=⟨fun a b h=>by
 obtain ⟨a0,a1⟩:=a;obtain ⟨b0,b1⟩:=b;simp only [Q7,AV.mp.injEq,AV.int.injEq,AV.str.injEq,AV.bool.injEq,AV.cE.injEq,AV.agg.injEq,AV.e9.injEq,List.cons.injEq,true_and,and_true] at h;obtain ⟨h0,h1⟩:=h
 replace h0:a0=b0:=map_inj c4.inj _ _ h0
 replace h1:a1=b1:=h1
 subst h0 h1
 rfl⟩
def Q8:((List (List UInt8))×(List (List Int)))→AV:=(fun (x:(List (List UInt8))×(List (List Int)))=>((.e9 [(.cE 1 (List.map aI x.1)),(.cE 1 (List.map (ct 1 (aJ .u64)) x.2))]):AV))
instance:c4 Q8:=⟨fun a b h=>by
 obtain ⟨a0,a1⟩:=a;obtain ⟨b0,b1⟩:=b;simp only [Q8,AV.mp.injEq,AV.int.injEq,AV.str.injEq,AV.bool.injEq,AV.cE.injEq,AV.agg.injEq,AV.e9.injEq,List.cons.injEq,true_and,and_true] at h;obtain ⟨h0,h1⟩:=h
 replace h0:a0=b0:=map_inj c4.inj _ _ h0
 replace h1:a1=b1:=map_inj c4.inj _ _ h1
 subst h0 h1
 rfl⟩
def Q9:((List (List Int))×Bool)→AV:=(fun (x:(List (List Int))×Bool)=>((.e9 [(.cE 1 (List.map (ct 1 (aJ .u64)) x.1)),(.bool x.2)]):AV))
instance:c4 Q9:=⟨fun a b h=>by
 obtain ⟨a0,a1⟩:=a;obtain ⟨b0,b1⟩:=b;simp only [Q9,AV.mp.injEq,AV.int.injEq,AV.str.injEq,AV.bool.injEq,AV.cE.injEq,AV.agg.injEq,AV.e9.injEq,List.cons.injEq,true_and,and_true] at h;obtain ⟨h0,h1⟩:=h
 replace h0:a0=b0:=map_inj c4.inj _ _ h0
 replace h1:a1=b1:=h1
 subst h0 h1
 rfl⟩
def Q10:(List Int)→AV:=(fun (x:List Int)=>((.cE 1 (List.map (aJ .i64) x)):AV))
instance:c4 Q10:=⟨fun a b h=>by
 simp only [Q10,AV.mp.injEq,AV.int.injEq,AV.str.injEq,AV.bool.injEq,AV.cE.injEq,AV.agg.injEq,AV.e9.injEq,List.cons.injEq,true_and,and_true] at h
 exact map_inj c4.inj _ _ h⟩
def Q11:Unit→AV:=(fun (_:Unit)=>AV.e9 [])
instance:c4 Q11:=⟨fun a b h=>rfl⟩
def Q12:(List ((List UInt8)×(List (List UInt8))))→AV:=(fun (x:List ((List UInt8)×(List (List UInt8))))=>((.mp (az V9 jm x).1 (az V9 jm x).2):AV))
instance:c4 Q12:=⟨fun a b h=>by
 simp only [Q12,AV.mp.injEq,AV.int.injEq,AV.str.injEq,AV.bool.injEq,AV.cE.injEq,AV.agg.injEq,AV.e9.injEq,List.cons.injEq,true_and,and_true] at h
 exact hG (K:=V9) (V:=jm) h.1 h.2⟩
def Q13:(List (List UInt8))→AV:=(fun (x:List (List UInt8))=>((.cE 1 (List.map aI x)):AV))
instance:c4 Q13:=⟨fun a b h=>by
 simp only [Q13,AV.mp.injEq,AV.int.injEq,AV.str.injEq,AV.bool.injEq,AV.cE.injEq,AV.agg.injEq,AV.e9.injEq,List.cons.injEq,true_and,and_true] at h
 exact map_inj c4.inj _ _ h⟩
def Q14:(List UInt8)→AV:=(fun (x:List UInt8)=>((.str x):AV))
instance:c4 Q14:=⟨fun a b h=>by
 simp only [Q14,AV.mp.injEq,AV.int.injEq,AV.str.injEq,AV.bool.injEq,AV.cE.injEq,AV.agg.injEq,AV.e9.injEq,List.cons.injEq,true_and,and_true] at h
 exact h⟩
def Q15:(List ((List UInt8)×(List Int)))→AV:=(fun (x:List ((List UInt8)×(List Int)))=>((.mp (az V9 nH x).1 (az V9 nH x).2):AV))
instance:c4 Q15:=⟨fun a b h=>by
 simp only [Q15,AV.mp.injEq,AV.int.injEq,AV.str.injEq,AV.bool.injEq,AV.cE.injEq,AV.agg.injEq,AV.e9.injEq,List.cons.injEq,true_and,and_true] at h
 exact hG (K:=V9) (V:=nH) h.1 h.2⟩
def Q16:(Int×Bool)→AV:=(fun (x:Int×Bool)=>((.e9 [(.int .i64 x.1),(.bool x.2)]):AV))
instance:c4 Q16:=⟨fun a b h=>by
 obtain ⟨a0,a1⟩:=a;obtain ⟨b0,b1⟩:=b;simp only [Q16,AV.mp.injEq,AV.int.injEq,AV.str.injEq,AV.bool.injEq,AV.cE.injEq,AV.agg.injEq,AV.e9.injEq,List.cons.injEq,true_and,and_true] at h;obtain ⟨h0,h1⟩:=h
 replace h0:a0=b0:=h0
 replace h1:a1=b1:=h1
 subst h0 h1
 rfl⟩
def Q17:((List Int)×Int)→AV:=(fun (x:(List Int)×Int)=>((.e9 [(.cE 1 (List.map (aJ .u64) x.1)),(.int .i64 x.2)]):AV))
instance:c4 Q17:=⟨fun a b h=>by
 obtain ⟨a0,a1⟩:=a;obtain ⟨b0,b1⟩:=b;simp only [Q17,AV.mp.injEq,AV.int.injEq,AV.str.injEq,AV.bool.injEq,AV.cE.injEq,AV.agg.injEq,AV.e9.injEq,List.cons.injEq,true_and,and_true] at h;obtain ⟨h0,h1⟩:=h
 replace h0:a0=b0:=map_inj c4.inj _ _ h0
 replace h1:a1=b1:=h1
 subst h0 h1
 rfl⟩
def Q18:(List Int)→AV:=(fun (x:List Int)=>((.cE 1 (List.map (aJ .u64) x)):AV))
instance:c4 Q18:=⟨fun a b h=>by
 simp only [Q18,AV.mp.injEq,AV.int.injEq,AV.str.injEq,AV.bool.injEq,AV.cE.injEq,AV.agg.injEq,AV.e9.injEq,List.cons.injEq,true_and,and_true] at h
 exact map_inj c4.inj _ _ h⟩
def Q19:Nat→AV:=(fun (x:Nat)=>(AV.self x:AV))
instance:c4 Q19:=⟨fun a b h=>by
 simp only [Q19,AV.self.injEq] at h
 exact h⟩
def Q20:Int→AV:=(fun (x:Int)=>((.int .u64 x):AV))
instance:c4 Q20:=⟨fun a b h=>by
 simp only [Q20,AV.mp.injEq,AV.int.injEq,AV.str.injEq,AV.bool.injEq,AV.cE.injEq,AV.agg.injEq,AV.e9.injEq,List.cons.injEq,true_and,and_true] at h
 exact h⟩
abbrev R392.T:Type:=Bool
abbrev R14.T:Type:=(List aB)×Int
abbrev R391.T:Type:=af
abbrev R319.T:Type:=(List bC)×Int
abbrev R317.T:Type:=Int
abbrev R316.T:Type:=Bool
abbrev R39.T:Type:=Int
abbrev R40.T:Type:=(List (List UInt8))×(List (List Int))
abbrev R41.T:Type:=(List (List Int))×Bool
abbrev R42.T:Type:=Int
abbrev R43.T:Type:=Bool
abbrev R31.T:Type:=Bool
abbrev R44.T:Type:=List Int
abbrev R45.T:Type:=List UInt8
abbrev R46.T:Type:=List (List UInt8)
abbrev R47.T:Type:=Unit
abbrev R24.T:Type:=Bool
abbrev R18.T:Type:=Int
abbrev R344.T:Type:=(Option table)×Int
abbrev R322.T:Type:=(List (List ai))×Int
abbrev R321.T:Type:=Bool
abbrev R324.T:Type:=Bool
abbrev R347.T:Type:=Bool
abbrev R76.T:Type:=Bool
abbrev R77.T:Type:=Int
abbrev R78.T:Type:=Int
abbrev R79.T:Type:=List (List UInt8)
abbrev R80.T:Type:=Unit
abbrev R81.T:Type:=List (List UInt8)
abbrev R82.T:Type:=Int×Bool
abbrev R83.T:Type:=(List Int)×Int
abbrev R84.T:Type:=Unit
abbrev R85.T:Type:=List UInt8
abbrev R29.T:Type:=List Int
abbrev R63.T:Type:=Bool
abbrev R86.T:Type:=Int
abbrev R90.T:Type:=List (List UInt8)
abbrev R75.T:Type:=List ((List UInt8)×(List (List UInt8)))
abbrev R74.T:Type:=List (List UInt8)
abbrev R91.T:Type:=Bool
abbrev R92.T:Type:=Bool
abbrev R93.T:Type:=Bool
abbrev R97.T:Type:=Bool
abbrev R67.T:Type:=Bool
abbrev R58.T:Type:=Int
abbrev R59.T:Type:=Bool
abbrev R366.T:Type:=Int
abbrev R375.T:Type:=Bool
abbrev R367.T:Type:=Int
abbrev R368.T:Type:=Int
abbrev R369.T:Type:=Int
abbrev R359.T:Type:=Bool
abbrev R378.T:Type:=Bool
abbrev R386.T:Type:=Bool
abbrev R113.T:Type:=Bool
abbrev R114.T:Type:=Bool
abbrev R115.T:Type:=Bool
abbrev R116.T:Type:=List UInt8
abbrev R117.T:Type:=Nat
abbrev R118.T:Type:=Bool
abbrev R120.T:Type:=Bool
abbrev R121.T:Type:=Bool
abbrev R68.T:Type:=List Int
abbrev R107.T:Type:=Int
abbrev R124.T:Type:=Nat
abbrev R125.T:Type:=Int
abbrev R126.T:Type:=Int
abbrev R109.T:Type:=Int
abbrev R380.T:Type:=Bool
abbrev R381.T:Type:=Bool
abbrev R388.T:Type:=Bool
abbrev R376.T:Type:=List Int
abbrev R382.T:Type:=Bool
abbrev R390.T:Type:=Bool
abbrev R377.T:Type:=List ((List UInt8)×(List Int))
abbrev R379.T:Type:=Int
abbrev R141.T:Type:=Int
abbrev R142.T:Type:=Bool
abbrev R143.T:Type:=Bool
abbrev R387.T:Type:=Bool
abbrev R384.T:Type:=Int
abbrev R389.T:Type:=Bool
abbrev R385.T:Type:=Unit
abbrev R383.T:Type:=List Int
abbrev R161.T:Type:=Bool
def elems:List (Nat×yD):=[(9,C9),(37,C37),(25,C25),(5,C5),(51,C51),(80,C80),(49,C49),(65,C65),(3,C3),(87,C87),(86,C86)]
def vals:List (Nat×gN):=[(3,V3),(4,V4),(9,V9),(22,jm),(49,nH)]
def TQ:List (Nat×gN):=[(4,⟨_,Q1⟩),(6,⟨_,Q7⟩),(8,⟨_,Q5⟩),(9,⟨_,Q2⟩),(10,⟨_,Q3⟩),(11,⟨_,Q1⟩),(12,⟨_,Q3⟩),(13,⟨_,Q8⟩),(14,⟨_,Q9⟩),(15,⟨_,Q3⟩),(16,⟨_,Q1⟩),(17,⟨_,Q1⟩),(18,⟨_,Q10⟩),(19,⟨_,Q14⟩),(20,⟨_,Q13⟩),(21,⟨_,Q11⟩),(30,⟨_,Q1⟩),(33,⟨_,Q3⟩),(34,⟨_,Q4⟩),(35,⟨_,Q6⟩),(36,⟨_,Q1⟩),(37,⟨_,Q1⟩),(38,⟨_,Q1⟩),(39,⟨_,Q1⟩),(40,⟨_,Q3⟩),(41,⟨_,Q3⟩),(42,⟨_,Q13⟩),(43,⟨_,Q11⟩),(44,⟨_,Q13⟩),(45,⟨_,Q16⟩),(46,⟨_,Q17⟩),(47,⟨_,Q11⟩),(48,⟨_,Q14⟩),(49,⟨_,Q18⟩),(50,⟨_,Q1⟩),(51,⟨_,Q3⟩),(55,⟨_,Q13⟩),(56,⟨_,Q12⟩),(57,⟨_,Q13⟩),(58,⟨_,Q1⟩),(59,⟨_,Q1⟩),(60,⟨_,Q1⟩),(65,⟨_,Q1⟩),(69,⟨_,Q1⟩),(70,⟨_,Q3⟩),(71,⟨_,Q1⟩),(72,⟨_,Q3⟩),(73,⟨_,Q1⟩),(74,⟨_,Q3⟩),(75,⟨_,Q3⟩),(76,⟨_,Q3⟩),(77,⟨_,Q1⟩),(78,⟨_,Q1⟩),(79,⟨_,Q1⟩),(80,⟨_,Q1⟩),(81,⟨_,Q1⟩),(82,⟨_,Q1⟩),(83,⟨_,Q14⟩),(84,⟨_,Q19⟩),(85,⟨_,Q1⟩),(87,⟨_,Q1⟩),(88,⟨_,Q1⟩),(89,⟨_,Q18⟩),(90,⟨_,Q20⟩),(93,⟨_,Q19⟩),(94,⟨_,Q3⟩),(95,⟨_,Q3⟩),(106,⟨_,Q3⟩),(107,⟨_,Q1⟩),(108,⟨_,Q1⟩),(109,⟨_,Q1⟩),(110,⟨_,Q10⟩),(111,⟨_,Q1⟩),(112,⟨_,Q1⟩),(113,⟨_,Q15⟩),(114,⟨_,Q3⟩),(115,⟨_,Q3⟩),(116,⟨_,Q1⟩),(117,⟨_,Q1⟩),(133,⟨_,Q1⟩),(134,⟨_,Q3⟩),(135,⟨_,Q1⟩),(136,⟨_,Q11⟩),(137,⟨_,Q18⟩),(138,⟨_,Q1⟩),(1000008,⟨_,Q0⟩)]
def nM:gW:={ elem:=y7 elems,val:=y7 vals,res:=y7 TQ,ptr:=some ⟨table,table.enc⟩ }
def hints:List (Nat×Hint):=[
 (3,{ loops:=[(4,[3,4,5],[16]),(8,[3,4,6],[16]),(12,[3,4,6,7,8],[7,16,5112,5113,5114,5115,5116,5117])],rows:=[7,16],cG:=[9],bJ:=[] }),
 (4,{ loops:=[(3,[0,3,4],[12])],rows:=[12,56],cG:=[6],bJ:=[],sQ:=[(9,[12])],pQ:=[10,11],jL:=[(10,[]),(11,[])],take:=[27],TE:=[(9,[2])],nest:=[(12,2,37,2)] }),
 (6,{ loops:=[(10,[0,5,6,9,34,35,36],[9]),(18,[0,5,6,9,12,14,34,35,36,53,54,55],[9,12,14])],rows:=[9,14],cG:=[5,6,7],bJ:=[77] }),
 (7,{ loops:=[],rows:=[],cG:=[1,2,4],bJ:=[] }),
 (8,{ loops:=[(3,[2,6,7,8],[6,7,5112,5113,5114,5115,5116,5117,5192,5193,5194,5195,5196,5197])],rows:=[7,12],cG:=[],bJ:=[],sQ:=[(6,[5112,5113,5114,5115,5116,5117,5192,5193,5194,5195,5196,5197])] }),
 (9,{ loops:=[(6,[4,6,20,21,22],[6])],rows:=[6],cG:=[],bJ:=[] }),
 (11,{ loops:=[],rows:=[61,69],cG:=[1,2,4,6,7],bJ:=[] }),
 (12,{ loops:=[(11,[0,5,20,21,22],[])],rows:=[],cG:=[],bJ:=[] }),
 (13,{ loops:=[(3,[0,4,15,16,17],[4]),(10,[0,4,7,32,33,34],[4,31]),(14,[0,4,7,8,10,32,33,34,41,42,43],[4,10,31])],rows:=[4,10,31],cG:=[],bJ:=[27] }),
 (14,{ loops:=[(5,[5,6,13,14,15],[4,5,11,5080,5081,5082,5083,5084,5085]),(10,[5,6,9],[4,5,11,5080,5081,5082,5083,5084,5085]),(13,[5,6,9,10],[4,5,11,5080,5081,5082,5083,5084,5085])],rows:=[5],cG:=[8],bJ:=[12] }),
 (15,{ loops:=[(2,[1,7,8,9],[10000,10001,10002,10003,10004,10005,10006,10007,10008,20000,20001,20002,20003,20004,20005,20006,20007,20008,20009,20010,20011])],rows:=[],cG:=[6],bJ:=[] }),
 (18,{ loops:=[(3,[3,6,7,8],[3]),(5,[3,4,5,6,7,8],[3])],rows:=[3],cG:=[],bJ:=[] }),
 (19,{ loops:=[(12,[0,1,5,39,40,41],[]),(22,[1,8,63,64,65],[8,5128,5129,5130,5131,5132,5133])],rows:=[8],cG:=[],bJ:=[] }),
 (20,{ loops:=[(5,[5,6,7,17,18,19],[7])],rows:=[7],cG:=[5],bJ:=[] }),
 (21,{ loops:=[],rows:=[],cG:=[],bJ:=[7],stay:=[6,11,13] }),
 (23,{ loops:=[(3,[3,6,7,8],[])],rows:=[],cG:=[],bJ:=[] }),
 (25,{ loops:=[(3,[3,6,7,8],[])],rows:=[],cG:=[],bJ:=[] }),
 (27,{ loops:=[(4,[0,1,5],[])],rows:=[],cG:=[],bJ:=[] }),
 (29,{ loops:=[(4,[0,7,8,26,27,28],[])],rows:=[],cG:=[7,8],bJ:=[] }),
 (31,{ loops:=[(4,[0,1,5],[])],rows:=[],cG:=[],bJ:=[] }),
 (32,{ loops:=[(3,[1,2,5,6,12,13],[2,5,6]),(9,[2,5,6,30,31,32],[2,5,6])],rows:=[5,6],cG:=[],bJ:=[],sQ:=[(8,[2])] }),
 (34,{ loops:=[(6,[4,6,24,25,26],[21,23,5352,5353,5354,5355,5356,5357])],rows:=[22],cG:=[4],bJ:=[],sQ:=[(8,[8])],stay:=[38] }),
 (36,{ loops:=[(4,[0,1,5],[])],rows:=[],cG:=[],bJ:=[] }),
 (37,{ loops:=[(4,[0,1,5],[])],rows:=[],cG:=[],bJ:=[] }),
 (38,{ loops:=[(3,[0,3,9,10],[3,7]),(8,[0,3,5],[3,7]),(11,[0,3,5,18,19],[3,7])],rows:=[],cG:=[],bJ:=[30],stay:=[31] }),
 (40,{ loops:=[(3,[3,9,10,11],[8])],rows:=[],cG:=[],bJ:=[] }),
 (41,{ loops:=[(3,[3,12,13,14],[]),(6,[3,5,12,13,14,19,20,21],[5])],rows:=[],cG:=[8],bJ:=[] }),
 (42,{ loops:=[(5,[3,4,5,18,19,20],[5,16,17]),(11,[3,4,5,7,18,19,20,40,41,42],[5,7,16,17]),(17,[3,4,5,10],[5,10,16,17]),(22,[3,4,5,10,71,72,73],[5,10,16,17])],rows:=[5,10,17,46,48],cG:=[],bJ:=[62],sQ:=[(16,[17])] }),
 (43,{ loops:=[],rows:=[],cG:=[],bJ:=[5],stay:=[4,9,10] }),
 (44,{ loops:=[(3,[1,5,15,16,17],[14]),(9,[1,5,7,15,16,17,34,35,36],[7,14])],rows:=[14,30,40,42],cG:=[8],bJ:=[],sQ:=[(14,[14])] }),
 (45,{ loops:=[(3,[0,1,6,7,8],[])],rows:=[],cG:=[],bJ:=[],stay:=[11,27,47,50] }),
 (46,{ loops:=[(3,[0,4,10,11,12],[]),(11,[7,30,31,32],[29])],rows:=[29],cG:=[],bJ:=[] }),
 (48,{ loops:=[(3,[3,11,12,13],[10]),(6,[3,5,6,11,12,13],[10])],rows:=[10],cG:=[],bJ:=[] }),
 (49,{ loops:=[(3,[0,1,5,14,15],[12])],rows:=[12],cG:=[],bJ:=[] }),
 (50,{ loops:=[(2,[1,7,8,9],[])],rows:=[],cG:=[],bJ:=[] }),
 (55,{ loops:=[(4,[5,6,13,14,15],[6])],rows:=[6],cG:=[9],bJ:=[31,33] }),
 (56,{ loops:=[(3,[3,9,10,11],[8])],rows:=[],cG:=[],bJ:=[] }),
 (57,{ loops:=[(7,[0,7,8,9],[20,24]),(10,[0,7,8,9,36,37,38],[20,24])],rows:=[24],cG:=[5],bJ:=[53] }),
 (59,{ loops:=[],rows:=[],cG:=[],bJ:=[],stay:=[7] }),
 (60,{ loops:=[],rows:=[],cG:=[],bJ:=[],stay:=[7] }),
 (61,{ loops:=[(2,[0,1,2,3,4,10,11],[10000,10001,10002,10003,10004,10005,10006,10007,10008,20000,20001,20002,20003,20004,20005,20006,20007,20008,20009,20010,20011])],rows:=[],cG:=[],bJ:=[26,33,40,57,76,98,106,129,140],stay:=[30,37,44,52,61,80,94,103,111,134,146] }),
 (66,{ loops:=[(4,[0,1,5],[])],rows:=[],cG:=[],bJ:=[] }),
 (67,{ loops:=[(3,[0,1,5,14,15],[12])],rows:=[12],cG:=[],bJ:=[] }),
 (69,{ loops:=[],rows:=[],cG:=[],bJ:=[],stay:=[7] }),
 (70,{ loops:=[(2,[1,7,8,9],[10000,10001,10002,10003,10004,10005,10006,10007,10008,20000,20001,20002,20003,20004,20005,20006,20007,20008,20009,20010,20011])],rows:=[],cG:=[],bJ:=[] }),
 (72,{ loops:=[(2,[0,1,7,8],[10000,10001,10002,10003,10004,10005,10006,10007,10008,20000,20001,20002,20003,20004,20005,20006,20007,20008,20009,20010,20011])],rows:=[],cG:=[],bJ:=[],stay:=[7,16] }),
 (74,{ loops:=[(3,[0,3,19,20,21],[15,10000,10001,10002,10003,10004,10005,10006,10007,10008,20000,20001,20002,20003,20004,20005,20006,20007,20008,20009,20010,20011]),(6,[0,3,19,20,21,26,27,28],[5,15,10000,10001,10002,10003,10004,10005,10006,10007,10008,20000,20001,20002,20003,20004,20005,20006,20007,20008,20009,20010,20011]),(14,[0,3,43,44,45],[15,10000,10001,10002,10003,10004,10005,10006,10007,10008,20000,20001,20002,20003,20004,20005,20006,20007,20008,20009,20010,20011]),(17,[0,3,9,43,44,45,50,51,52],[9,15,10000,10001,10002,10003,10004,10005,10006,10007,10008,20000,20001,20002,20003,20004,20005,20006,20007,20008,20009,20010,20011]),(29,[0,82],[82,10000,10001,10002,10003,10004,10005,10006,10007,10008,20000,20001,20002,20003,20004,20005,20006,20007,20008,20009,20010,20011])],rows:=[],cG:=[],bJ:=[65,100],stay:=[66,101],blk:=[(28,Fh,Fg)] }),
 (75,{ loops:=[(2,[1,10,11,12],[1,10000,10001,10002,10003,10004,10005,10006,10007,10008,20000,20001,20002,20003,20004,20005,20006,20007,20008,20009,20010,20011])],rows:=[],cG:=[],bJ:=[20],stay:=[18,21] }),
 (76,{ loops:=[(2,[0,15,16],[10000,10001,10002,10003,10004,10005,10006,10007,10008,20000,20001,20002,20003,20004,20005,20006,20007,20008,20009,20010,20011]),(7,[0,4,5,15,16,25,26,27],[4,10000,10001,10002,10003,10004,10005,10006,10007,10008,20000,20001,20002,20003,20004,20005,20006,20007,20008,20009,20010,20011])],rows:=[4],cG:=[8],bJ:=[],sQ:=[(16,[4])],stay:=[21] }),
 (77,{ loops:=[(4,[0,1,5],[])],rows:=[],cG:=[],bJ:=[] }),
 (78,{ loops:=[],rows:=[],cG:=[],bJ:=[],stay:=[7] }),
 (80,{ loops:=[],rows:=[],cG:=[],bJ:=[],stay:=[7] }),
 (83,{ loops:=[(5,[0,3,4],[])],rows:=[],cG:=[],bJ:=[],stay:=[6,14,23] }),
 (84,{ loops:=[(5,[0,1,5,6],[10000,10001,10002,10003,10004,10005,10006,10007,10008,20000,20001,20002,20003,20004,20005,20006,20007,20008,20009,20010,20011])],rows:=[],cG:=[],bJ:=[],stay:=[10,18,28] }),
 (86,{ loops:=[(2,[0,1,2,3,8,9],[10000])],rows:=[],cG:=[],bJ:=[24,30,36,51,69,88,95,117,127],stay:=[27,33,39,46,54,72,85,92,99,121,132] }),
 (89,{ loops:=[(2,[0,3],[])],rows:=[],cG:=[],bJ:=[] }),
 (92,{ loops:=[],rows:=[],cG:=[4],bJ:=[] }),
 (93,{ loops:=[(4,[0,3],[10000]),(9,[0,3,4,5],[10000])],rows:=[],cG:=[4],bJ:=[],stay:=[7,12,31] }),
 (94,{ loops:=[(2,[0,1,7,8],[])],rows:=[],cG:=[],bJ:=[],stay:=[7] }),
 (95,{ loops:=[(2,[0,1,7,8],[10000,10001,10002,10003,10004,10005,10006,10007,10008,20000,20001,20002,20003,20004,20005,20006,20007,20008,20009,20010,20011])],rows:=[],cG:=[],bJ:=[],stay:=[7,16] }),
 (96,{ loops:=[(1,[0,1,2,3,8],[10000,10001,10002,10003,10004,10005,10006,10007,10008,20000,20001,20002,20003,20004,20005,20006,20007,20008,20009,20010,20011]),(4,[0,1,2,3,8,9],[10000,10001,10002,10003,10004,10005,10006,10007,10008,20000,20001,20002,20003,20004,20005,20006,20007,20008,20009,20010,20011])],rows:=[],cG:=[],bJ:=[],stay:=[32] }),
 (97,{ loops:=[(4,[0,3,8,9,10,11],[10000,10001,10002,10003,10004,10005,10006,10007,10008,20000,20001,20002,20003,20004,20005,20006,20007,20008,20009,20010,20011]),(8,[0,3,8,9,12],[10000,10001,10002,10003,10004,10005,10006,10007,10008,20000,20001,20002,20003,20004,20005,20006,20007,20008,20009,20010,20011])],rows:=[],cG:=[],bJ:=[24,54],stay:=[29,59] }),
 (98,{ loops:=[(5,[0,1,8,9,10,11],[9,10000,10001,10002,10003,10004,10005,10006,10007,10008,20000,20001,20002,20003,20004,20005,20006,20007,20008,20009,20010,20011])],rows:=[],cG:=[],bJ:=[],stay:=[21,38] }),
 (99,{ loops:=[],rows:=[],cG:=[],bJ:=[],stay:=[40,44,48,54] }),
 (100,{ loops:=[(2,[0,8,9],[10000,10001,10002,10003,10004,10005,10006,10007,10008,20000,20001,20002,20003,20004,20005,20006,20007,20008,20009,20010,20011])],rows:=[],cG:=[],bJ:=[] }),
 (101,{ loops:=[(3,[0,1,2,3,9,10],[10000,10001,10002,10003,10004,10005,10006,10007,10008,20000,20001,20002,20003,20004,20005,20006,20007,20008,20009,20010,20011]),(5,[0,1,2,3,9,10],[10000,10001,10002,10003,10004,10005,10006,10007,10008,20000,20001,20002,20003,20004,20005,20006,20007,20008,20009,20010,20011]),(14,[0,1,2,3,9,10,11],[10000,10001,10002,10003,10004,10005,10006,10007,10008,20000,20001,20002,20003,20004,20005,20006,20007,20008,20009,20010,20011]),(20,[0,1,2,3,9,10,12],[10000,10001,10002,10003,10004,10005,10006,10007,10008,20000,20001,20002,20003,20004,20005,20006,20007,20008,20009,20010,20011])],rows:=[],cG:=[],bJ:=[],stay:=[33,82,122] }),
 (102,{ loops:=[(3,[0,1,4,11,12],[10000,10001,10002,10003,10004,10005,10006,10007,10008,20000,20001,20002,20003,20004,20005,20006,20007,20008,20009,20010,20011]),(5,[0,1,4,11,12],[10000,10001,10002,10003,10004,10005,10006,10007,10008,20000,20001,20002,20003,20004,20005,20006,20007,20008,20009,20010,20011])],rows:=[],cG:=[],bJ:=[],stay:=[44,63] }),
 (103,{ loops:=[(3,[0,1,4,12,13],[10000,10001,10002,10003,10004,10005,10006,10007,10008,20000,20001,20002,20003,20004,20005,20006,20007,20008,20009,20010,20011]),(5,[0,1,4,12,13],[10000,10001,10002,10003,10004,10005,10006,10007,10008,20000,20001,20002,20003,20004,20005,20006,20007,20008,20009,20010,20011]),(13,[0,1,4,12,13],[10000,10001,10002,10003,10004,10005,10006,10007,10008,20000,20001,20002,20003,20004,20005,20006,20007,20008,20009,20010,20011]),(15,[0,1,4,12,13],[10000,10001,10002,10003,10004,10005,10006,10007,10008,20000,20001,20002,20003,20004,20005,20006,20007,20008,20009,20010,20011])],rows:=[],cG:=[],bJ:=[],stay:=[45,63,118,136] }),
 (106,{ loops:=[(2,[0,1,7,8],[10000,10001,10002,10003,10004,10005,10006,10007,10008,20000,20001,20002,20003,20004,20005,20006,20007,20008,20009,20010,20011])],rows:=[],cG:=[],bJ:=[],stay:=[7,16] }),
 (108,{ loops:=[],rows:=[],cG:=[],bJ:=[],stay:=[7] }),
 (110,{ loops:=[(3,[0,3,5,11,12,13],[3,5,10000,10001,10002,10003,10004,10005,10006,10007,10008,20000,20001,20002,20003,20004,20005,20006,20007,20008,20009,20010,20011])],rows:=[5],cG:=[],bJ:=[],sQ:=[(2,[3])],stay:=[20] }),
 (111,{ loops:=[],rows:=[],cG:=[],bJ:=[6],stay:=[7] }),
 (113,{ loops:=[(4,[1,2,5,6,16,17,18],[2,5,11,10000,10001,10002,10003,10004,10005,10006,10007,10008,20000,20001,20002,20003,20004,20005,20006,20007,20008,20009,20010,20011]),(8,[1,2,5,6,16,17,18,36,37,38],[2,5,8,11,10000,10001,10002,10003,10004,10005,10006,10007,10008,20000,20001,20002,20003,20004,20005,20006,20007,20008,20009,20010,20011])],rows:=[],cG:=[],bJ:=[12],stay:=[33],keep:=[10001,10002,10003,10004] }),
 (114,{ loops:=[(2,[0,1,7,8],[10000,10001,10002,10003,10004,10005,10006,10007,10008,20000,20001,20002,20003,20004,20005,20006,20007,20008,20009,20010,20011])],rows:=[],cG:=[],bJ:=[],stay:=[7,16] }),
 (115,{ loops:=[(2,[0,1,7,8],[10000,10001,10002,10003,10004,10005,10006,10007,10008,20000,20001,20002,20003,20004,20005,20006,20007,20008,20009,20010,20011])],rows:=[],cG:=[],bJ:=[],stay:=[7,16] }),
 (116,{ loops:=[(4,[1,16],[16,10000,10001,10002,10003,10004,10005,10006,10007,10008,20000,20001,20002,20003,20004,20005,20006,20007,20008,20009,20010,20011])],rows:=[],cG:=[],bJ:=[] }),
 (118,{ loops:=[(1,[0,1,2,6],[10000]),(4,[0,1,2,6,7],[10000])],rows:=[],cG:=[],bJ:=[],stay:=[29] }),
 (119,{ loops:=[(4,[0,6,7,8,9],[10000]),(8,[0,6,7,10],[10000])],rows:=[],cG:=[],bJ:=[22,51],stay:=[26,55] }),
 (120,{ loops:=[(5,[0,1,6,7,8,9],[7,10000])],rows:=[],cG:=[],bJ:=[],stay:=[19,36] }),
 (121,{ loops:=[],rows:=[],cG:=[],bJ:=[],stay:=[37,40,43,48] }),
 (122,{ loops:=[(2,[0,6,7],[10000])],rows:=[],cG:=[],bJ:=[] }),
 (123,{ loops:=[(3,[0,1,2,7,8],[10000]),(5,[0,1,2,7,8],[10000]),(14,[0,1,2,7,8,9],[10000]),(20,[0,1,2,7,8,10],[10000])],rows:=[],cG:=[],bJ:=[],stay:=[30,77,115] }),
 (124,{ loops:=[(3,[0,1,9,10],[10000]),(5,[0,1,9,10],[10000])],rows:=[],cG:=[],bJ:=[],stay:=[41,58] }),
 (125,{ loops:=[(3,[0,1,10,11],[10000]),(5,[0,1,10,11],[10000]),(13,[0,1,10,11],[10000]),(15,[0,1,10,11],[10000])],rows:=[],cG:=[],bJ:=[],stay:=[42,58,111,127] }),
 (128,{ loops:=[(1,[0,2,3,4,10],[10000,10001,10002,10003,10004,10005,10006,10007,10008,20000,20001,20002,20003,20004,20005,20006,20007,20008,20009,20010,20011])],rows:=[],cG:=[],bJ:=[],stay:=[38,56] }),
 (129,{ loops:=[],rows:=[],cG:=[],bJ:=[],stay:=[5] }),
 (131,{ loops:=[],rows:=[],cG:=[],bJ:=[],stay:=[17] }),
 (132,{ loops:=[],rows:=[],cG:=[],bJ:=[],stay:=[19,28,37] }),
 (134,{ loops:=[(2,[0,1,7,8],[10000,10001,10002,10003,10004,10005,10006,10007,10008,20000,20001,20002,20003,20004,20005,20006,20007,20008,20009,20010,20011])],rows:=[],cG:=[],bJ:=[],stay:=[7,16] }),
 (136,{ loops:=[],rows:=[],cG:=[4,5],bJ:=[],stay:=[10] }),
 (139,{ loops:=[(1,[0,2,3,8],[10000])],rows:=[],cG:=[],bJ:=[],stay:=[35,51] }),
 (140,{ loops:=[],rows:=[],cG:=[],bJ:=[],stay:=[14] }),
 (141,{ loops:=[],rows:=[],cG:=[],bJ:=[],stay:=[16,24,32] }),
 (142,{ loops:=[],rows:=[],cG:=[],bJ:=[],stay:=[21] }),
 (143,{ loops:=[],rows:=[],cG:=[],bJ:=[],stay:=[18] })]
def H (f:Nat):Hint:=(find hints f).getD {}
def ja (sep:List UInt8):List (List UInt8)→List UInt8
 |[]=>[]
 |[x]=>x
 |x::xs=>x++sep++ja sep xs
def strs:List (List AV)→Option (List (List UInt8))
 |[]=>some []
 |[.str s]::l=>(strs l).map (s:: ·)
 |_=>none
def tz:Nat→Nat→Nat
 |0,_=>0
 |k+1,n=>bif Nat.beq (n % 2) 1 then 0 else 1+tz k (n / 2)
def AG:List (List AV)→Option Nat
 |[]=>some 0
 |[[.int .u64 (.ofNat m)]]=>bif Nat.blt 0 m&&Nat.blt m 18446744073709551616 then some m else none
 |_=>none
def dm:Nat→Nat→Nat
 |0,_=>0
 |k+1,n=>n % 2+dm k (n / 2)
abbrev gX:=List UInt8×Nat
def td:List (List AV)→Option (List gX)
 |[]=>some []
 |[.str s, .cE 1 ws]::l=>match AG ws,td l with
  |some w,some r=>some ((s,w)::r)
  |_,_=>none
 |_=>none
def xB (p q:gX):Bool:=Nat.blt (dm 64 q.2) (dm 64 p.2)||(Nat.beq (dm 64 p.2) (dm 64 q.2)&&Op.bytesLess p.1 q.1)
def lU:List gX→Bool
 |[]=>true
 |x::l=>l.all (fun y=>xB x y||xB y x)&&lU l
def gX.enc (p:gX):List AV:=[.str p.1, .cE 1 (bif Nat.beq p.2 0 then [] else [[.int .u64 (p.2:Int)]])]
def B6:cQ:=fun f args bG=>match f,args,bG with
 |19,[.pv (.cE 1 xs), .pv (.str sep)],[]=>match strs xs with
  |some l=>bif Nat.ble (ja sep l).length 140737488355328&&Nat.ble l.length 140737488355328 then some (.str (ja sep l),[]) else none
  |none=>none
 |51,[.pv (.int .u64 n)],[]=>match n with
  | .ofNat m=>bif Nat.blt m 18446744073709551616 then some (.int .i64 (tz 64 m:Nat),[]) else none
  | .negSucc _=>none
 |43,[.row 10000],[(10000, .row 9 1 xs)]=>match strs xs with
  |some l=>bif Nat.ble l.length 1073741824 then some (.e9 [],[(10000, .row 9 1 ((dP Op.bytesLess l).map aI))]) else none
  |none=>none
 |_,_,_=>none
def dg:cQ:=fun f args bG=>match f,args,bG with
 |21,[.row 10000, .pv (.fn 22 [])],[(10000, .row 51 2 xs)]=>match td xs with
  |some l=>bif lU l&&Nat.ble l.length 1073741824 then some (.e9 [],[(10000, .row 51 2 ((dP xB l).map gX.enc))]) else none
  |none=>none
 |8,[.pv (.str n), .pv (.str s), .pv .jL],[]=>some (.agg [.str n, .cE 1 [[.str s]], .jL],[])
 |f,args,bG=>B6 f args bG
noncomputable abbrev Rn:cQ:=run P H dg
abbrev pT (l:List af):SV:= .pv (.cE 3 (List.map af.enc l))
abbrev pC (l:List aB):SV:= .pv (.cE 2 (List.map aB.enc l))
abbrev pF (l:List ah):SV:= .pv (.cE 2 (List.map ah.enc l))
abbrev pP (l:List ai):SV:= .pv (.cE 2 (List.map ai.enc l))
abbrev pS (l:List (List UInt8)):SV:= .pv (.cE 1 (List.map aI l))
abbrev pN (l:List Int):SV:= .pv (.cE 1 (List.map (aJ .i64) l))
abbrev pU (l:List Int):SV:= .pv (.cE 1 (List.map (aJ .u64) l))
abbrev pI (x:Int):SV:= .pv (.int .i64 x)
abbrev oS (l:List (List UInt8)):Ob:= .row 9 1 (List.map aI l)
abbrev oI (l:List Int):Ob:= .row 3 1 (List.map (aJ .i64) l)
abbrev oA (l:List (List ai)):Ob:= .row 87 1 (List.map (ct 2 ai.enc) l)
abbrev oM (k e:TypeId) (K V:gN) (x:List (K.T×V.T)):Ob:= .mp k e (az K V x).1 (az K V x).2
abbrev sB:Type:=List UInt8
theorem lb {T:Type} {E:T→Out} [c4 E] {raw:Option Out} {t:Option T} {r:T} {f:Nat} {args:List SV} {bG:List (Nat×Ob)} (ht:t=some r) (hi:cO E raw t) (hk:ME P nM H dg f args bG=raw) (hp:dg f args bG=none):dec E (run P H dg f args bG)=some r:=
 ql ht hi hk (fun h=>j0 (C:=nM) hp h)
theorem lh {T:Type} {E:T→Out} [c4 E] {raw:Option Out} {t:Option T} {r:T} {f key:Nat} {names:List Nat} {env:List (Nat×SV)} {ob:List (Nat×Ob)} (ht:t=some r) (hi:cO E raw t) (hk:Jp P nM H dg f key names env ob=raw):dec E (xq P nM H dg f key names env ob)=some r:=
 ql ht hi hk (fun h=>tn h)
noncomputable abbrev hT:=xq P nM H dg
abbrev oB (x:List af) (y:List aB) (a b c d:Nat):Ob:= .box 78 [pT x,pC y, .row a, .row b, .row c, .row d]
end Go.Proofs.YtfoddgpndoeeaaaGreatDoor.cl
