/- The functions and loops as plain ones, by program (decomp8.p. -/
import Derived.Test.YtbnlhmaaccgbjaaGreatDoorClT
set_option linter.all false
set_option maxRecDepth 100000
namespace Go.Proofs.YtbnlhmaaccgbjaaGreatDoor.cl
noncomputable section
open Go Go.AM
abbrev f561:=λl=>rn Q2 3 [(Pr l)]
abbrev f562:=λl=>rn Q2 4 [(Pr l)]
abbrev f403:=λl=>rn Q0 5 [(bG l)]
abbrev f498:=λq l=>rn Q1 6 [(cr q),(Pr l)]
abbrev f510:=λl=>rn Q4 7 [(jw l)]
abbrev f563:=λl=>rn Q3 8 [(jw l)]
abbrev GZ:=λl q w (z:List aQ)=>hd Q3 8 5 [gQ 1,gQ 2,vC 3,(4,(aG l))] [(1,(gy q)),(2,(gy w)),(3,(.row 27 4 (List.map aQ.ga z)))]
abbrev f499:=rn Q2 9 []
abbrev f500:=λq w l=>rn Q5 10 [(cr q),(dL w),(jw l)]
abbrev f564:=λl=>rn Q3 11 [(jw l)]
abbrev L1:=λl q w (z:List aQ)=>hd Q3 11 3 [gQ 1,gQ 2,vC 3,(4,(aG l))] [(1,(gy q)),(2,(gy w)),(3,(.row 27 4 (List.map aQ.ga z)))]
abbrev G0:=λl q w (z:List aQ) (B:List aQ)=>hd Q3 11 9 [gQ 1,gQ 2,vC 3,vC 5,(6,(aG l))] [(1,(gy q)),(2,(gy w)),(3,(.row 27 4 (List.map aQ.ga z))),(5,(.row 27 4 (List.map aQ.ga B)))]
abbrev f407:=λl q=>rn Q2 12 [(mu l),(mu q)]
abbrev f565:=λl=>rn Q2 13 [(jw l)]
abbrev QO:=λl q=>hd Q2 13 4 [gQ 1,(3,(aG l))] [(1,(gy q))]
abbrev f566:=λl=>rn Q6 14 [(jw l)]
abbrev f419:=λw l q=>rn Q7 15 [(cr w),(mu l),(mu q)]
abbrev f332:=λl=>rn Q8 16 [(bG l)]
abbrev Qa:=λw F B z D l q=>hd Q8 16 7 [(0,(bG w)),gQ 2,(4,(Pu F)),(6,(ic B)),gQ 8,(9,(aG z))] [(2,(eC D)),(8,(.box 36 [(.row 5128),(.row 5129)])),(5128,(z8 l)),(5129,(qK q))]
abbrev f327:=rn Q9 17 []
abbrev f502:=λl=>rn Q2 18 [(oJ l)]
abbrev QB:=λq l=>hd Q2 18 4 [(0,(oJ q)),(3,(aG l))] []
abbrev f503:=λl=>rn Q2 19 [(jw l)]
abbrev f504:=λl q=>rn Q10 20 [(cr l),(oJ q)]
abbrev LW:=λl q w=>hd Q10 20 5 [(1,(oJ l)),gQ 2,vC 7] [(2,(eC q)),(7,(gq w))]
abbrev FQ:=λq l=>hd Q10 20 11 [vC 7,vC 10] [(7,(gq q)),(10,(gq l))]
abbrev Ai:=λl q z w=>hd Q10 20 14 [vC 7,vC 10,(11,(aG l)),(12,(aG q))] [(7,(gq z)),(10,(gq w))]
abbrev f525:=λq l=>rn Q4 21 [(jw q),(aG l)]
abbrev Aj:=λl q w=>hd Q4 21 11 [gQ 2,(5,(aG l)),(6,(aG q))] [(2,(gy w))]
abbrev f414:=λl=>dec (D8) (Rn 24 [(aG l)] [])
abbrev f505:=λl q=>dec (Rl) (Rn 25 [(cr l),(dL q)] [])
abbrev E506r (l:List fO) (q:List cU) (w:List Template):=eD Q5 (dI 10000 (iL 109 [(eV l),(er q),(dL w),(.row 10001)] 2 Node.enc) (dJ 10001 (iM 9 87 V9 Uk) dZ))
abbrev abu:=λD l q w z B=>dec (E506r l q w) (Rn 26 [(.ptr 10000 0),(jw D)] (tl0 l q w z B))
abbrev f418:=λl q=>rn Q4 27 [(mu l),(mu q)]
abbrev Ql:=λq w l=>hd Q4 27 4 [(5,(fe q)),(6,(fe w)),(7,(aG l))] []
abbrev f433:=λw l q=>rn Q7 28 [(cr w),(mu l),(mu q)]
abbrev f434:=λq l=>rn Q7 29 [(cr q),(mu l)]
abbrev Qn:=λF G I K L N l q w z B D=>hd Q7 29 3 [gQ 3,gQ 4,(6,(.ptr 14 0)),(16,(dR F)),(17,(aG G)),(18,(aG I))] (tl10 K L N l q w z B D)
abbrev B6:=λF G I K l q w z B D=>hd Q7 29 9 [gQ 3,gQ 4,(6,(.ptr 14 0)),(9,(aG F))] (tl10 G I K l q w z B D)
abbrev FJ:=λK L N O l q I w z B D F G=>hd Q7 29 15 [gQ 4,(6,(.ptr 14 0)),gQ 10,(72,(aG K)),(73,(aG L))] [(2,(eC N)),(4,(ff O)),(10,(.box 30 [(.row 68)])),(14,(.box 127 [(eV l),(er q),(.row 5210),(.row 5211)])),(68,(dO I)),(5160,(dO w)),(5208,(z8 z)),(5209,(qK B)),(5210,(dY D)),(5211,(dY F)),(6104,(dO G))]
abbrev f323:=λl=>rn Q11 30 [(bG l)]
abbrev LA:=λl w q B z=>hd Q11 30 8 [(0,(bG l)),(5,(ic w)),(7,(dg q)),vC 8,(9,(aG B))] [(8,(AK z))]
abbrev FI:=λw B z F l D q=>hd Q11 30 12 [(0,(bG w)),(5,(ic B)),(7,(dg z)),vC 8,(9,(aG F)),vC 10,(11,(aG l))] [(8,(AK D)),(10,(Lm q))]
abbrev f15:=λl=>rn Q12 31 [(bG l)]
abbrev Yw:=λq l w z=>hd Q12 31 7 [(0,(bG q)),(5,(dg l)),vC 6,(7,(aG w))] [(6,(D1 z))]
abbrev D2:=λB q l D w z=>hd Q12 31 15 [(0,(bG B)),(5,(dg q)),(6,(vq l)),(8,(vq D)),(9,(ic w)),(10,(aG z))] []
abbrev P8:=λF q l G w z D B=>hd Q12 31 19 [(0,(bG F)),(5,(dg q)),(6,(vq l)),(8,(vq G)),(9,(ic w)),(10,(aG z)),gQ 11,(12,(aG D))] [(11,(UJ B))]
abbrev f28:=λq l=>rn Q14 32 [(ic q),(aG l)]
abbrev Ih:=λw l q z=>hd Q14 32 3 [(0,(ic w)),(1,(aG l)),vC 5,(6,(aG q))] [(5,(dY z))]
abbrev Ii:=λz q w l B D=>hd Q14 32 8 [(0,(ic z)),(1,(aG q)),vC 5,(6,(aG w)),(7,(Z1 l)),(8,(aG B))] [(5,(dY D))]
abbrev f320:=λl=>rn Q18 33 [(bG l)]
abbrev P9:=λl z q w B=>hd Q18 33 8 [(0,(bG l)),(5,(ic z)),(7,(dg q)),vC 8,(9,(aG w))] [(8,(qK B))]
abbrev f351:=λw q l=>rn Q13 34 [(uw w),(uw q),(dg l)]
abbrev Qc:=λl G I D F q w z B=>hd Q13 34 5 [(2,(dg l)),gQ 6,gQ 7,(8,(aG G))] [(6,(tc I)),(7,(.box 96 [(uw D),(.row 14),(.row 5162)])),(14,(gz F)),(5113,(gz q)),(5114,(qm w)),(5161,(gz z)),(5162,(qm B))]
abbrev I8:=λl F G D q w z B=>hd Q13 34 5 [(2,(dg l)),gQ 6,gQ 7,(8,(aG F))] [(6,(tc G)),(7,(.box 96 [(uw D),(.row 5161),(.row 5162)])),(5113,(gz q)),(5114,(qm w)),(5161,(gz z)),(5162,(qm B))]
abbrev f523:=λl=>rn Q2 35 [(Pt l)]
abbrev QH:=λl q=>hd Q2 35 4 [gQ 1,(3,(aG l))] [(1,(EA q))]
abbrev f509:=λq l=>rn Q2 36 [(jw q),(aG l)]
abbrev f511:=λl=>rn Q2 37 [(jw l)]
abbrev QC:=λl q=>hd Q2 37 4 [gQ 1,(3,(aG l))] [(1,(gy q))]
abbrev f512:=λl=>rn Q4 38 [(oJ l)]
abbrev QD:=λq l=>hd Q4 38 2 [(0,(oJ q)),(3,(aG l))] []
abbrev LX:=λq l=>hd Q4 38 7 [(0,(oJ q)),(4,(aG l))] []
abbrev Jf:=λw l z q=>hd Q4 38 11 [(0,(oJ w)),(4,(aG l)),(5,(dg z)),(6,(aG q))] []
abbrev Jg:=λl q=>hd Q4 38 16 [(0,(oJ l)),vC 7] [(7,(gq q))]
abbrev f527:=λq w l=>dec (AY) (Rn 39 [(cr q),(.row 10000),(Pt w)] [(10000,(gq l))])
abbrev LY:=λG I K L N q w z B D F l=>hx (AY) 39 6 [10000] [(1,(.row 10000)),gQ 3,gQ 5,gQ 6,gQ 10,(11,(aG G))] ((3,(eC I))::(5,(EA K))::(tl11 L N q w z B D F l))
abbrev FV:=λI G K L q w z B D F l=>hx (AY) 39 14 [10000] [(1,(.row 10000)),gQ 6,gQ 10,(14,(dg I)),(15,(aG G))] (tl11 K L q w z B D F l)
abbrev f526:=λq l=>rn Q4 40 [(dL q),(oJ l)]
abbrev sH:=λz w l q=>hd Q4 40 3 [(0,(dL z)),(1,(oJ w)),(5,(aG l)),(6,(aG q))] []
abbrev f515:=λq l=>rn Q4 41 [(dL q),(uw l)]
abbrev QE:=λw l q=>hd Q4 41 2 [(0,(dL w)),(1,(uw l)),(5,(aG q))] []
abbrev f538:=λl=>rn Q2 42 [(jw l)]
abbrev LZ:=λl q=>hd Q2 42 6 [gQ 1,(3,(aG l))] [(1,(gy q))]
abbrev E528r (l:List fO) (q:List cU) (w:List Template):=eD Q20 (dI 10000 (iL 109 [(eV l),(er q),(dL w),(.row 10001)] 2 Node.enc) (dJ 10001 (iM 9 87 V9 Uk) dZ))
abbrev R7:=λD l q w z B=>dec (E528r l q w) (Rn 45 [(.ptr 10000 0),(uw D)] (tl0 l q w z B))
abbrev MN (l:List fO) (q:List cU) (w:List Template):=eD Q2 (dI 10000 (iL 109 [(eV l),(er q),(dL w),(.row 10001)] 2 Node.enc) (dJ 10001 (iM 9 87 V9 Uk) dZ))
abbrev MY:=λD l q w z B=>dec (MN l q w) (Rn 49 [(.ptr 10000 0),(jw D)] (tl0 l q w z B))
abbrev mD:=λD F G I l q w z B=>hx (MN l q w) 49 14 [10000,10001] [gQ 2,gQ 3,(48,(dg D)),(49,(aG F)),(50,(aG G))] ((2,(.box 72 [(.ptr 10000 0)]))::(3,(gy I))::(tl0 l q w z B))
abbrev rj:=λD F l q w z B=>dec (MN l q w) (Rn 50 [(.ptr 10000 0),(jw D),(fe F)] (tl0 l q w z B))
abbrev f432:=λl=>rn Q14 51 [(mu l)]
abbrev LL:=λq w l=>hd Q14 51 3 [gQ 1,(3,(.row 10)),(4,(aG q))] [(1,(ff w)),(10,(dY l))]
abbrev Qm:=λq z w B l=>hd Q14 51 8 [gQ 1,(3,(.row 10)),(4,(aG q)),(5,(kS z)),(6,(aG w))] [(1,(ff B)),(10,(dY l))]
abbrev aaz (l:List fO) (q:List cU):=eD Q15 (dT 10000 (.box 122 [(eV l),(er q),(.row 20001),(.row 20002),(.row 20003)]) (dI 20001 (iR 3 1 (dS .i64)) (dI 20002 (iR 3 1 (dS .i64)) (dJ 20003 (iR 62 1 (kR 2 cD.enc)) dZ))))
abbrev f442:=λD l q w z B=>dec (aaz l q) (Rn 52 [(.ptr 10000 0),(dR D)] (YK l q w z B))
abbrev LM:=λI D F G l q w z B=>hx (aaz l q) 52 2 [10000,20001,20002,20003] [(0,(.ptr 10000 0)),(4,(aG I)),(15,(dR D)),(16,(aG F)),(17,(aG G))] (YK l q w z B)
abbrev Qt:=λQ D F G I K L N O l q w z B=>hx (aaz l q) 52 8 [10000,20001,20002,20003] [(0,(.ptr 10000 0)),(4,(aG Q)),vC 7,(15,(dR D)),(16,(aG F)),(17,(aG G)),(46,(kS I)),(47,(aG K)),(48,(aG L))] ((6,(Cn N))::(7,(iT O))::(YK l q w z B))
abbrev E443r (l:List fO) (q:List cU):=eD Q2 (dT 10000 (.box 122 [(eV l),(er q),(.row 20001),(.row 20002),(.row 20003)]) (dI 20001 (iR 3 1 (dS .i64)) (dI 20002 (iR 3 1 (dS .i64)) (dJ 20003 (iR 62 1 (kR 2 cD.enc)) dZ))))
abbrev f443:=λD F l q w z B=>dec (E443r l q) (Rn 53 [(.ptr 10000 0),(aG D),(aG F)] (YK l q w z B))
abbrev Af:=λF D l q w z B=>hx (E443r l q) 53 3 [10000,20001,20002,20003] [gQ 3,gQ 7,(8,(.cl 109 [.p 3, .p 7]))] ((3,(.box 119 [(.ptr 10000 0)]))::(7,(.box 184 [(.row 15)]))::(15,(kC F))::(5112,(kC D))::(YK l q w z B))
abbrev E444r (l:List fO) (q:List cU):=eD Q16 (dT 10000 (.box 122 [(eV l),(er q),(.row 20001),(.row 20002),(.row 20003)]) (dI 20001 (iR 3 1 (dS .i64)) (dI 20002 (iR 3 1 (dS .i64)) (dJ 20003 (iR 62 1 (kR 2 cD.enc)) dZ))))
abbrev f444:=λD l q w z B=>dec (E444r l q) (Rn 54 [(.ptr 10000 0),(aG D)] (YK l q w z B))
abbrev Qu:=λF I K L G D l q w z B=>hx (E444r l q) 54 3 [10000,20001,20002,20003] [(1,(aG F)),gQ 2,gQ 4,gQ 5,(16,(aG I)),(17,(aG K))] ((2,(.box 119 [(.ptr 10000 0)]))::(4,(ff L))::(5,(.box 87 [(.row 14)]))::(14,(dY G))::(5080,(dY D))::(YK l q w z B))
abbrev WR (l:List fO) (q:List cU):=eD Q2 (dT 10000 (.box 127 [(eV l),(er q),(.row 20001),(.row 20002)]) (dI 20001 (iR 3 1 (dS .i64)) (dJ 20002 (iR 3 1 (dS .i64)) dZ)))
abbrev f461:=λB D l q w z=>dec (WR l q) (Rn 55 [(.ptr 10000 0),(mu B),(aG D)] (tl5 l q w z))
abbrev D3:=λG B D F I l q w z=>hx (WR l q) 55 2 [10000,20001,20002] [(0,(.ptr 10000 0)),(2,(aG G)),gQ 4,(18,(kS B)),(19,(aG D)),(20,(aG F))] ((4,(ff I))::(tl5 l q w z))
abbrev CJ:=λG B D F l q w z=>hx (WR l q) 55 8 [10000,20001,20002] [(0,(.ptr 10000 0)),(2,(aG G)),(44,(kS B)),(45,(aG D)),(46,(aG F))] (tl5 l q w z)
abbrev f462:=λl=>rn Q25 56 [(dR l)]
abbrev f318:=λl=>rn Q4 57 [(bG l)]
abbrev I6:=λl z q w=>hd Q4 57 11 [(0,(bG l)),(3,(ic z)),(5,(dg q)),(7,(aG w))] []
abbrev FG:=λq z w l=>hd Q4 57 17 [(0,(bG q)),(3,(ic z)),(5,(dg w)),(10,(aG l))] []
abbrev FH:=λw B z q l=>hd Q4 57 20 [(0,(bG w)),(3,(ic B)),(5,(dg z)),(10,(aG q)),(11,(aG l))] []
abbrev f345:=λl=>rn Q17 58 [(bG l)]
abbrev LC:=λq l w=>hd Q17 58 3 [(0,(bG q)),(3,(dg l)),(4,(aG w))] []
abbrev Qb:=λq l w z=>hd Q17 58 6 [(0,(bG q)),(3,(dg l)),(4,(aG w)),(5,(aG z))] []
abbrev f370:=λq w z l=>rn Q27 59 [(bG q),(ic w),(aG z),(uw l)]
abbrev GR:=λB D F q w l z=>hd Q27 59 4 [(0,(bG B)),(1,(ic D)),(2,(aG F)),(3,(uw q)),(10,(Z1 w)),(11,(gV l)),(12,(aG z))] []
abbrev f19:=λq l=>rn Q4 60 [(ic q),(gV l)]
abbrev Yx:=λq w l=>hd Q4 60 3 [(0,(ic q)),(5,(gV w)),(6,(aG l))] []
abbrev f32:=λl=>rn Q4 61 [(bG l)]
abbrev LB:=λl w q=>hd Q4 61 12 [(0,(bG l)),(6,(aG w)),(7,(aG q))] []
abbrev f52:=λl=>rn Q17 62 [(bG l)]
abbrev Yz:=λq l w=>hd Q17 62 3 [(0,(bG q)),(3,(dg l)),(4,(aG w))] []
abbrev f53:=λw q l=>rn Q22 63 [(bG w),(dg q),(uw l)]
abbrev T1:=λl q w z=>hd Q22 63 4 [(1,(dg l)),(7,(dg q)),vC 8,(9,(aG w))] [(8,(dY z))]
abbrev f54:=λl=>rn Q23 64 [(vq l)]
abbrev NS:=λl q=>hd Q23 64 3 [(3,(.row 7)),(4,(aG l))] [(7,(D1 q))]
abbrev NT:=λl q w=>hd Q23 64 6 [(3,(.row 7)),(4,(aG l)),(5,(aG q))] [(7,(D1 w))]
abbrev f55:=λz q l w=>rn Q28 65 [(bG z),(dg q),(vq l),(gV w)]
abbrev T2:=λB q l z w D=>hd Q28 65 3 [(0,(bG B)),(1,(dg q)),(2,(vq l)),(3,(gV z)),vC 9,(10,(aG w))] [(9,(gz D))]
abbrev GY:=λw q l=>hd Q28 65 12 [(9,(dg w)),(11,(uw q)),(12,(aG l))] []
abbrev f56:=λl q=>rn Q2 66 [(Tq l),(Tq q)]
abbrev f25:=λw l q=>rn Q2 67 [(ic w),(aG l),(aG q)]
abbrev f357:=λq l=>rn Q26 68 [(bG q),(uw l)]
abbrev LH:=λw q l z=>hd Q26 68 3 [(0,(bG w)),(1,(uw q)),(6,(dg l)),(7,(aG z))] []
abbrev f358:=λq l=>rn Q4 69 [(ic q),(uw l)]
abbrev Qg:=λw l q=>hd Q4 69 2 [(0,(ic w)),(1,(uw l)),(5,(aG q))] []
abbrev f110:=λl=>rn Q2 70 [(uw l)]
abbrev f524:=λw l q=>rn Q4 71 [(jw w),(aG l),(aG q)]
abbrev QJ:=λl q w z=>hd Q4 71 4 [(1,(aG l)),(2,(aG q)),gQ 3,(7,(aG w))] [(3,(gy z))]
abbrev FU:=λl q z w B=>hd Q4 71 10 [(1,(aG l)),(2,(aG q)),gQ 3,(8,(aG z)),(9,(aG w))] [(3,(gy B))]
abbrev f539:=λq l=>rn Q4 72 [(oJ q),(uw l)]
abbrev QK:=λw l q=>hd Q4 72 2 [(0,(oJ w)),(1,(uw l)),(5,(aG q))] []
abbrev f546:=λl=>rn Q17 73 [(Pt l)]
abbrev QL:=λq w l=>hd Q17 73 3 [gQ 1,(3,(.row 5121)),(4,(aG q))] [(1,(EA w)),(5121,(gz l))]
abbrev MX:=λw q l=>dec (CT) (Rn 74 [(cr w),(.row 10000),(jw q)] [(10000,(gq l))])
abbrev f548:=λq l=>dec (D9) (Rn 75 [(jw q),(.row 20000)] [(20000,(gz l))])
abbrev GX:=λq w l=>hx (D9) 75 4 [20000] [(1,(.row 20000)),gQ 2,(5,(aG q))] [(2,(gy w)),(20000,(gz l))]
abbrev f547:=λl q=>rn Q2 76 [(dL l),(Pt q)]
abbrev QM:=λw q l=>hd Q2 76 3 [(0,(dL w)),(5,(dg q)),(6,(aG l))] []
abbrev f545:=λl=>rn Q2 77 [(aG l)]
abbrev f372:=λl=>rn Q2 78 [(uw l)]
abbrev f554:=λl=>rn Q2 79 [(jw l)]
abbrev CM:=λq l w=>hd Q2 79 13 [gQ 1,(3,(aG q)),(4,(aG l))] [(1,(gy w))]
abbrev f558:=λl q=>rn Q4 83 [(uw l),(uw q)]
abbrev f540:=λq l=>rn Q20 92 [(dL q),(uw l),(.pv (.fn 93 []))]
abbrev L0:=λB l z w q=>hd Q20 92 3 [(0,(dL B)),(1,(uw l)),(2,(.pv (.fn 93 []))),(8,(aG z)),(9,(aG w)),(10,(aG q))] []
abbrev f556:=λq l=>rn Q4 93 [(Tr q),(uw l)]
abbrev f352:=λq l=>rn Q4 98 [(cr q),(uw l)]
abbrev f529:=λl=>rn Q5 99 [(cr l),(.pv (.dD 1 (List.map FSt.enc [])))]
abbrev f363:=λq l=>rn Q4 100 [(cr q),(uw l)]
abbrev Qh:=λl z B q w=>hd Q4 100 2 [(1,(uw l)),(8,(er z)),(9,(aG B)),(10,(aG q))] [(2,(eC w))]
abbrev E533r (l:List Int) (q:List fO) (w:List cU) (z:List Template):=eD Q2 (dT 10000 (.box 72 [(.ptr 10002 0)]) (dT 10001 (.box 87 [(fe l)]) (dI 10002 (iL 109 [(eV q),(er w),(dL z),(.row 10003)] 2 Node.enc) (dJ 10003 (iM 9 87 V9 Uk) dZ))))
abbrev WS (l:List fO) (q:List cU) (w:List Template):=eD Q2 (dT 10000 (.box 72 [(.ptr 10001 0)]) (dI 10001 (iL 109 [(eV l),(er q),(dL w),(.row 10002)] 2 Node.enc) (dJ 10002 (iM 9 87 V9 Uk) dZ)))
abbrev f533b:=λ(F:List aQ) l q w z B D=>dec (E533r l q w z) (Rn 101 [(.pv (.dD 4 (List.map aQ.ga F))),(.cl 106 [.p 10000, .p 10001])] (YL l q w z B D))
abbrev Xg:=λ(D:List aQ) l q w z B=>dec (WS l q w) (Rn 101 [(.pv (.dD 4 (List.map aQ.ga D))),(.cl 102 [.p 10000])] (tl3 l q w z B))
abbrev abw:=λD l q w z B=>dec (WS l q w) (Rn 102 [(jw D),(.ptr 10000 0)] (tl3 l q w z B))
abbrev vO:=λD F l q w z B=>dec (MN l q w) (Rn 103 [(.ptr 10000 0),(fe D),(aG F)] (tl0 l q w z B))
abbrev MZ:=λF D l q w z B=>dec (MN l q w) (Rn 104 [(.ptr 10000 0),(fe F),(mu D)] (tl0 l q w z B))
abbrev J7:=λD F l q w z B=>dec (MN l q w) (Rn 105 [(.ptr 10000 0),(fe D),(fe F)] (tl0 l q w z B))
abbrev abv:=λF l q w z B D=>dec (E533r l q w z) (Rn 106 [(jw F),(.ptr 10000 0),(.ptr 10001 0)] (YL l q w z B D))
abbrev E534r (l:List fO) (q:List cU) (w:List Template):=eD Q14 (dI 10000 (iL 109 [(eV l),(er q),(dL w),(.row 10001)] 2 Node.enc) (dJ 10001 (iM 9 87 V9 Uk) dZ))
abbrev By:=λF B l q w z D=>dec (E534r l q w) (Rn 107 [(.ptr 10000 0),(fe F),(dg B)] (tl0 l q w z D))
abbrev Jh:=λF G I D l q w z B=>hx (E534r l q w) 107 3 [10000,10001] [(0,(.ptr 10000 0)),(7,(.row 11)),(12,(dg F)),(13,(aG G)),(14,(aG I))] ((11,(dY D))::(tl0 l q w z B))
abbrev E535r (l:List fO) (q:List cU) (w:List Template):=eD Q21 (dI 10000 (iL 109 [(eV l),(er q),(dL w),(.row 10001)] 2 Node.enc) (dJ 10001 (iM 9 87 V9 Uk) dZ))
abbrev M0:=λ(D:List aQ) F l q w z B=>dec (E535r l q w) (Rn 108 [(.ptr 10000 0),(.pv (.dD 4 (List.map aQ.ga D))),(fe F)] (tl0 l q w z B))
abbrev CK:=λI (D:List aQ) F G l q w z B=>hx (E535r l q w) 108 2 [10000,10001] [(0,(.ptr 10000 0)),(2,(fe I)),(10,(.pv (.dD 4 (List.map aQ.ga D)))),(11,(aG F)),(12,(aG G))] (tl0 l q w z B)
abbrev E486r (l:List fO) (q:List cU):=eD Q2 (dT 10000 (.box 119 [(.ptr 10002 0)]) (dT 10001 (.box 184 [(.row 20003)]) (dT 10002 (.box 122 [(eV l),(er q),(.row 20004),(.row 20005),(.row 20006)]) (dI 20003 (iR 183 2 dF.enc) (dI 20004 (iR 3 1 (dS .i64)) (dI 20005 (iR 3 1 (dS .i64)) (dJ 20006 (iR 62 1 (kR 2 cD.enc)) dZ)))))))
abbrev f486:=λF G l q w z B D=>dec (E486r l q) (Rn 109 [(aG F),(aG G),(.ptr 10000 0),(.ptr 10001 0)] (tl6 l q w z B D))
abbrev nZ:=λI K G F l q w z B D=>hx (E486r l q) 109 8 [10000,10001,10002,20003,20004,20005,20006] [(0,(aG I)),(2,(.ptr 10000 0)),(3,(.ptr 10001 0)),(9,(kS K)),(10,(kS G)),vC 11] ((11,(iT F))::(tl6 l q w z B D))
abbrev f335:=λw l q=>rn Q20 110 [(cr w),(aG l),(aG q)]
abbrev E485r (l:List fO) (q:List cU):=eD Q4 (dT 10000 (.box 122 [(eV l),(er q),(.row 20001),(.row 20002),(.row 20003)]) (dI 20001 (iR 3 1 (dS .i64)) (dI 20002 (iR 3 1 (dS .i64)) (dJ 20003 (iR 62 1 (kR 2 cD.enc)) dZ))))
abbrev f485:=λD l q w z B=>dec (E485r l q) (Rn 111 [(.ptr 10000 0),(aG D)] (YK l q w z B))
abbrev LU:=λD l q w z B=>hx (E485r l q) 111 1 [10000,20001,20002,20003] [(0,(.ptr 10000 0)),(1,(aG D))] (YK l q w z B)
abbrev E487r (l:List fO) (q:List cU):=eD Q4 (dT 10000 (.box 119 [(.ptr 10004 0)]) (dT 10001 (.box 87 [(.row 20005)]) (dT 10002 (.box 30 [(.row 20006)]) (dT 10003 (.box 186 [(.cl 112 [.p 10000, .p 10001, .p 10002, .p 10003])]) (dT 10004 (.box 122 [(eV l),(er q),(.row 20007),(.row 20008),(.row 20009)]) (dI 20005 (iR 3 1 (dS .i64)) (dI 20006 (iR 64 2 Node.enc) (dI 20007 (iR 3 1 (dS .i64)) (dI 20008 (iR 3 1 (dS .i64)) (dJ 20009 (iR 62 1 (kR 2 cD.enc)) dZ))))))))))
abbrev f487:=λG l q w z B D F=>dec (E487r l q) (Rn 112 [(aG G),(.ptr 10000 0),(.ptr 10001 0),(.ptr 10002 0),(.ptr 10003 0)] (tl4 l q w z B D F))
abbrev Qz:=λN G I K L l q w z B D F=>hx (E487r l q) 112 9 [10000,10001,10002,10003,10004,20005,20006,20007,20008,20009] [(3,(.ptr 10002 0)),(4,(.ptr 10003 0)),(7,(aG N)),vC 8,(49,(kS G)),(50,(aG I)),(51,(aG K))] ((8,(iT L))::(tl4 l q w z B D F))
abbrev f472:=λB D l q w z=>dec (WR l q) (Rn 113 [(.ptr 10000 0),(aG B),(aG D)] (tl5 l q w z))
abbrev f355:=λq w l=>rn Q20 114 [(cr q),(aG w),(aG l)]
abbrev Ja:=λz l q w=>hd Q20 114 2 [(2,(aG z)),(15,(KZ l)),(16,(aG q)),(17,(aG w))] []
abbrev f346:=λl=>rn Q4 115 [(bG l)]
abbrev LF:=λq l w=>hd Q4 115 3 [(0,(bG q)),(3,(dg l)),(4,(aG w))] []
abbrev LG:=λq l w B z=>hd Q4 115 7 [(0,(bG q)),(3,(dg l)),(4,(aG w)),(5,(Fi B)),(6,(aG z))] []
abbrev I7:=λq l w B z D=>hd Q4 115 12 [(0,(bG q)),(3,(dg l)),(4,(aG w)),(5,(Fi B)),(6,(aG z)),(7,(aG D))] []
abbrev f98:=λl q=>rn Q17 116 [(dg l),(uw q)]
abbrev YI:=λl w z q=>hd Q17 116 3 [(0,(dg l)),(1,(uw w)),vC 5,(6,(aG z))] [(5,(gz q))]
abbrev f373:=λq l=>rn Q26 117 [(HT q),(uw l)]
abbrev Qk:=λl q w=>hd Q26 117 2 [(1,(uw l)),gQ 2,(6,(aG q))] [(2,(tc w))]
abbrev f61:=λl q=>rn Q22 118 [(gV l),(gV q)]
abbrev YC:=λl q w z=>hd Q22 118 3 [(0,(gV l)),(1,(gV q)),vC 5,(6,(aG w))] [(5,(yF z))]
abbrev f60:=λl=>rn Q22 119 [(gV l)]
abbrev YB:=λl q=>hd Q22 119 2 [(0,(gV l)),(3,(aG q))] []
abbrev f57:=λl q=>rn Q2 120 [(gV l),(gV q)]
abbrev YA:=λl q w=>hd Q2 120 4 [(0,(gV l)),(1,(gV q)),(5,(aG w))] []
abbrev f70:=λl=>rn Q4 121 [(bG l)]
abbrev YF:=λl q=>hd Q4 121 4 [(0,(bG l)),(3,(aG q))] []
abbrev f71:=λl=>rn Q4 122 [(bG l)]
abbrev YG:=λl q=>hd Q4 122 2 [(0,(bG l)),(3,(aG q))] []
abbrev f72:=λl=>rn Q4 123 [(bG l)]
abbrev T3:=λl q=>hd Q4 123 2 [(0,(bG l)),(3,(aG q))] []
abbrev YH:=λl q z w=>hd Q4 123 6 [(0,(bG l)),(3,(aG q)),(4,(dg z)),(5,(aG w))] []
abbrev f73:=λl=>rn Q17 124 [(bG l)]
abbrev L2:=λq l w=>hd Q17 124 3 [(0,(bG q)),vC 3,(4,(Z1 l))] [(3,(gz w))]
abbrev FW:=λw l q z B=>hd Q17 124 7 [(0,(bG w)),vC 3,(4,(Z1 l)),(5,(uw q)),(6,(aG z))] [(3,(gz B))]
abbrev f99:=λq l=>rn Q17 125 [(bG q),(uw l)]
abbrev T4:=λq w l=>hd Q17 125 5 [(0,(bG q)),(5,(.row 15)),(6,(aG w))] [(15,(gz l))]
abbrev NU:=λq w k7 l=>hd Q17 125 8 [(0,(bG q)),(5,(.row 15)),(6,(aG w)),(7,(aG k7))] [(15,(gz l))]
abbrev G1:=λl w q=>hd Q17 125 14 [(5,(.row 15)),(8,(dg l)),(9,(aG w))] [(15,(gz q))]
abbrev f37:=λl q=>rn Q2 126 [(dg l),(uw q)]
abbrev Yy:=λq w l=>hd Q2 126 2 [(0,(dg q)),(1,(uw w)),(5,(aG l))] []
abbrev f100:=λl=>rn Q30 127 [(fe l)]
abbrev P3:=λq l w=>hd Q30 127 3 [(0,(fe q)),(4,(.row 6)),(5,(aG l))] [(6,(yF w))]
abbrev f101:=λq l=>rn Q2 128 [(vq q),(gV l)]
abbrev P4:=λw l q=>hd Q2 128 2 [(0,(vq w)),(1,(gV l)),(5,(aG q))] []
abbrev f102:=λl q=>rn Q2 129 [(gV l),(gV q)]
abbrev f103:=λl q=>rn Q2 130 [(gV l),(aG q)]
abbrev f104:=λl q=>rn Q17 131 [(bG l),(dg q)]
abbrev GN:=λq l w z=>hd Q17 131 4 [(0,(bG q)),vC 5,(6,(dg l)),(7,(aG w))] [(5,(gz z))]
abbrev GQ:=λB q D z l w F=>hd Q17 131 9 [(0,(bG B)),vC 5,(6,(dg q)),(7,(aG D)),(8,(dg z)),(9,(Z1 l)),(10,(aG w))] [(5,(gz F))]
abbrev f105:=λl=>rn Q4 132 [(gV l)]
abbrev f65:=λl q=>rn Q2 133 [(gV l),(gV q)]
abbrev f140:=λq l=>rn Q2 134 [(uw q),(Z1 l)]
abbrev Lz:=λw l q=>hd Q2 134 4 [(0,(uw w)),(1,(Z1 l)),(5,(aG q))] []
abbrev f507:=λq w l=>rn Q2 135 [(cr q),(dL w),(jw l)]
abbrev oL:=λz l q w=>hd Q2 135 12 [(1,(dL z)),gQ 3,gQ 5,(7,(aG l))] [(3,(eC q)),(5,(gy w))]
abbrev FR:=λz l q w=>hd Q2 135 17 [(1,(dL z)),gQ 3,gQ 5,(8,(aG l))] [(3,(eC q)),(5,(gy w))]
abbrev oZ:=λD (w:List Node) (z:Bool) F B l q=>dec (tF) (Rn 136 [(cr D),(.row 10000),(.ag [.v (.dD 2 (List.map Node.enc w)), .v (.bool z), .r 20001]),(fe F),(jw B)] (tl9 l q))
abbrev wE:=λK D B G w z I F l q=>hx (tF) 136 11 [10000,20001] [(1,(.row 10000)),(3,(fe K)),gQ 5,gQ 7,gQ 9,gQ 10,(11,(aG D)),(12,(aG B))] ((5,(eC G))::(7,(.box 204 [(dR w),(Z1 z),(.row 20001)]))::(9,(gy I))::(10,(wR F))::(tl9 l q))
abbrev FT:=λB G w z I D F l q=>hx (tF) 136 18 [10000,20001] [(1,(.row 10000)),gQ 5,gQ 7,gQ 9,gQ 10,(13,(.row 72)),(14,(aG B))] ((5,(eC G))::(7,(.box 204 [(dR w),(Z1 z),(.row 20001)]))::(9,(gy I))::(10,(wR D))::(72,(dY F))::(tl9 l q))
abbrev f441:=λq l=>rn Q7 137 [(cr q),(mu l)]
abbrev Qr:=λl q w z B=>hd Q7 137 3 [gQ 2,gQ 3,gQ 4,vC 6,(7,(aG l))] (tl12 q w z B)
abbrev Ae:=λl q w z B=>hd Q7 137 7 [gQ 2,gQ 3,gQ 4,vC 6,(8,(Z1 l))] (tl12 q w z B)
abbrev xz:=λl q w z B D=>hd Q7 137 10 [gQ 2,gQ 3,gQ 4,vC 6,(9,(fe l)),(10,(aG q))] (tl12 w z B D)
abbrev xA:=λl q z w B D F G=>hd Q7 137 14 [gQ 2,gQ 3,gQ 4,vC 6,(9,(fe l)),(10,(aG q)),(11,(kS z)),(12,(aG w))] (tl12 B D F G)
abbrev Jd:=λq w z B l=>hd Q7 137 21 [gQ 3,gQ 4,vC 6,gQ 13,(14,(aG q))] [(3,(ff w)),(4,(ff z)),(6,(dY B)),(13,(.box 30 [(.row 5208)])),(5208,(dO l))]
abbrev f555:=λl q=>rn Q2 138 [(dg l),(uw q)]
abbrev QN:=λq w l=>hd Q2 138 2 [(0,(dg q)),(1,(uw w)),(5,(aG l))] []
abbrev f426:=λq l=>rn Q16 146 [(fe q),(mu l)]
abbrev GU:=λF q w z B D l=>hd Q16 146 3 [(0,(fe F)),gQ 3,gQ 4,gQ 5,(13,(fe q)),(14,(aG w)),(15,(aG z))] (tl7 B D l)
abbrev LI:=λF q w z B D l=>hd Q16 146 8 [(0,(fe F)),gQ 4,gQ 5,(33,(dR q)),(34,(aG w)),(35,(aG z))] (tl7 B D l)
abbrev Jb:=λQ B D F G I K L N O l q w z=>hd Q16 146 12 [(0,(fe Q)),gQ 4,gQ 5,gQ 10,(33,(dR B)),(34,(aG D)),(35,(aG F)),(43,(kS G)),(44,(aG I)),(45,(aG K))] [(3,(ff L)),(4,(ff N)),(5,(.box 30 [(.row 5080)])),(9,(Cn O)),(10,(.box 64 [(aG l),(.row 5657)])),(5080,(dO q)),(5161,(iT w)),(5657,(iT z))]
abbrev f425:=λl=>rn Q16 147 [(aG l)]
abbrev f438:=λq l w z=>rn Q7 151 [(cr q),(mu l),(fe w),(fe z)]
abbrev f353a:=λq (l:List UInt8)=>rn Q4 152 [(eV q),(.pv (.fn 153 [(.ref [(.str l)])]))]
abbrev f353:=λq (l:List Int)=>rn Q4 152 [(eV q),(.pv (.fn 160 [(.ref [(.dD 1 (List.map (dS .u64) l))])]))]
abbrev I9:=λq (l:List UInt8) w z=>hd Q4 152 2 [(0,(eV q)),(1,(.pv (.fn 153 [(.ref [(.str l)])]))),(7,(aG w)),(8,(aG z))] []
abbrev Qd:=λq (l:List Int) w z=>hd Q4 152 2 [(0,(eV q)),(1,(.pv (.fn 160 [(.ref [(.dD 1 (List.map (dS .u64) l))])]))),(7,(aG w)),(8,(aG z))] []
abbrev f374:=λq (l:List UInt8)=>rn Q2 153 [(Ts q),(.pv (.ref [(.str l)]))]
abbrev f541:=λl=>rn Q5 154 [(cr l),(.pv (.dD 1 (List.map FSt.enc []))),(.pv (.fn 155 []))]
abbrev f551:=λl=>rn Q4 155 [(Tt l)]
abbrev E543r (l:List Int) (q:List fO) (w:List cU) (z:List Template):=eD Q4 (dT 10000 (.box 72 [(.ptr 10002 0)]) (dT 10001 (.box 87 [(fe l)]) (dI 10002 (iL 109 [(eV q),(er w),(dL z),(.row 10003)] 2 Node.enc) (dJ 10003 (iM 9 87 V9 Uk) dZ))))
abbrev Ri (l:List fO) (q:List cU) (w:List Template):=eD Q4 (dT 10000 (.box 72 [(.ptr 10001 0)]) (dI 10001 (iL 109 [(eV l),(er q),(dL w),(.row 10002)] 2 Node.enc) (dJ 10002 (iM 9 87 V9 Uk) dZ)))
abbrev f543b:=λ(F:List aQ) l q w z B D=>dec (E543r l q w z) (Rn 156 [(.pv (.dD 4 (List.map aQ.ga F))),(.cl 106 [.p 10000, .p 10001])] (YL l q w z B D))
abbrev f543c:=λ(D:List aQ) l q w z B=>dec (Ri l q w) (Rn 156 [(.pv (.dD 4 (List.map aQ.ga D))),(.cl 102 [.p 10000])] (tl3 l q w z B))
abbrev CL:=λ(F:List aQ) G I l q w z B D=>hx (E543r l q w z) 156 2 [10000,10001,10002,10003] [(0,(.pv (.dD 4 (List.map aQ.ga F)))),(1,(.cl 106 [.p 10000, .p 10001])),(7,(aG G)),(8,(aG I))] (YL l q w z B D)
abbrev Ji:=λ(D:List aQ) F G l q w z B=>hx (Ri l q w) 156 2 [10000,10001,10002] [(0,(.pv (.dD 4 (List.map aQ.ga D)))),(1,(.cl 102 [.p 10000])),(7,(aG F)),(8,(aG G))] (tl3 l q w z B)
abbrev f542:=λw l z q=>rn Q7 157 [(cr w),(mu l),(fe z),(mu q)]
abbrev f460:=λl=>rn Q24 158 [(fe l)]
abbrev f29:=λl q=>rn Q22 159 [(gV l),(gV q)]
abbrev T0:=λz B q w l=>hd Q22 159 3 [(0,(gV z)),(1,(gV B)),(5,(.row 12)),(14,(aG q)),(15,(aG w))] [(12,(yF l))]
abbrev f371:=λq (l:List Int)=>rn Q2 160 [(Ts q),(.pv (.ref [(.dD 1 (List.map (dS .u64) l))]))]
abbrev f31:=λl q=>rn Q2 161 [(gV l),(gV q)]
abbrev f106:=λl q=>rn Q31 162 [(gV l),(aG q)]
abbrev f111:=λq l=>rn Q4 163 [(bG q),(uw l)]
abbrev P6:=λq l w=>hd Q4 163 2 [(0,(bG q)),(1,(uw l)),(5,(aG w))] []
abbrev f112:=λq l=>rn Q2 164 [(HT q),(dg l)]
abbrev P7:=λl q w=>hd Q2 164 2 [(1,(dg l)),gQ 2,(5,(aG q))] [(2,(tc w))]
abbrev f137:=λl q=>rn Q17 165 [(bG l),(dg q)]
abbrev Lu:=λq z l w=>hd Q17 165 3 [(0,(bG q)),(1,(dg z)),(5,(dg l)),(6,(aG w))] []
abbrev f138:=λq l=>rn Q17 166 [(bG q),(uw l)]
abbrev Lv:=λq w l=>hd Q17 166 5 [(0,(bG q)),(5,(.row 16)),(6,(aG w))] [(16,(gz l))]
abbrev Lw:=λq w B z l=>hd Q17 166 9 [(0,(bG q)),(5,(.row 16)),(6,(aG w)),(7,(dg B)),(8,(aG z))] [(16,(gz l))]
abbrev CH:=λl q w=>hd Q17 166 15 [(5,(.row 16)),(9,(dg l)),(10,(aG q))] [(16,(gz w))]
abbrev f139:=λl=>rn Q14 167 [(gV l)]
abbrev Lx:=λl q w=>hd Q14 167 3 [(0,(gV l)),vC 3,(4,(aG q))] [(3,(dY w))]
abbrev f108:=λl q=>rn Q22 168 [(gV l),(gV q)]
abbrev P5:=λl q w z=>hd Q22 168 3 [(0,(gV l)),(1,(gV q)),vC 5,(6,(aG w))] [(5,(yF z))]
abbrev f159:=λl=>rn Q2 169 [(Yd l)]
abbrev f160:=λq l=>rn Q2 170 [(Yd q),(Z1 l)]
abbrev f364:=λq l=>rn Q4 171 [(cr q),(uw l)]
abbrev Qi:=λl q w=>hd Q4 171 2 [(1,(uw l)),gQ 2,(5,(aG q))] [(2,(eC w))]
abbrev f516:=λl=>rn Q2 172 [(cr l)]
abbrev f365:=λq l=>rn Q4 173 [(cr q),(uw l)]
abbrev Qj:=λl q w=>hd Q4 173 2 [(1,(uw l)),gQ 2,(5,(aG q))] [(2,(eC w))]
abbrev f517:=λB (w:List Node) (z:Bool) D q l=>dec (CP) (Rn 174 [(cr B),(.ag [.v (.dD 2 (List.map Node.enc w)), .v (.bool z), .r 20000]),(fe D),(uw q)] [(20000,(pJ l))])
abbrev f518:=λB (q:List Node) (w:Bool) D z l=>dec (Il) (Rn 175 [(cr B),(.ag [.v (.dD 2 (List.map Node.enc q)), .v (.bool w), .r 20000]),(fe D),(mu z)] [(20000,(pJ l))])
abbrev f519:=λB (w:List Node) (z:Bool) D q l=>dec (N3) (Rn 176 [(cr B),(.ag [.v (.dD 2 (List.map Node.enc w)), .v (.bool z), .r 20000]),(fe D),(uw q)] [(20000,(pJ l))])
abbrev QF:=λG q B D w z F l=>hx (N3) 176 2 [20000] [(2,(fe G)),(3,(uw q)),gQ 4,gQ 5,gQ 8,(9,(aG B))] [(4,(eC D)),(5,(.box 204 [(dR w),(Z1 z),(.row 20000)])),(8,(wR F)),(20000,(pJ l))]
abbrev Xf:=λB (w:List Node) (z:Bool) F (D:List aQ) l q=>dec (x6) (Rn 177 [(cr B),(.row 10000),(.ag [.v (.dD 2 (List.map Node.enc w)), .v (.bool z), .r 20001]),(fe F),(.pv (.dD 4 (List.map aQ.ga D)))] (tl9 l q))
abbrev vt:=λI (F:List aQ) B G w z D l q=>hx (x6) 177 2 [10000,20001] [(1,(.row 10000)),(3,(fe I)),(4,(.pv (.dD 4 (List.map aQ.ga F)))),gQ 5,gQ 7,gQ 10,(11,(aG B))] ((5,(eC G))::(7,(.box 204 [(dR w),(Z1 z),(.row 20001)]))::(10,(wR D))::(tl9 l q))
abbrev f521:=λw l q=>rn Q14 178 [(fe w),(aG l),(aG q)]
abbrev QG:=λl q w=>hd Q14 178 2 [(1,(aG l)),(2,(aG q)),(7,(.row 8))] [(8,(dY w))]
abbrev f522:=λz (q:List Node) (w:Bool) B D l=>dec (N4) (Rn 179 [(cr z),(.ag [.v (.dD 2 (List.map Node.enc q)), .v (.bool w), .r 20000]),(fe B),(fe D)] [(20000,(pJ l))])
abbrev E477r:=eR Q2 10000 3 1 (dS .i64)
abbrev f477:=λq w z l=>dec (E477r) (Rn 180 [(cr q),(.row 10000),(aG w),(pg_Arc z)] [(10000,(dY l))])
abbrev f471:=λl q=>rn Q2 181 [(fe l),(fe q)]
abbrev Qx:=λl q w=>hd Q2 181 2 [(0,(fe l)),(1,(fe q)),(5,(aG w))] []
abbrev f549:=λl=>rn Q29 194 [(cr l)]
abbrev f550:=λl=>rn Q2 195 [(.pv (.dD 1 (List.map FSt.enc []))),(aG l)]
abbrev WE:=λl q w=>hd Q2 195 2 [(1,(aG l)),(7,(.pv (.dD 1 (List.map FSt.enc [])))),(8,(aG q)),(9,(aG w))] []
abbrev f552:=λq l=>rn Q5 196 [(Tt q),(.pv (.dD 1 (List.map FSt.enc []))),(aG l)]
abbrev aea:=λD q w z B l=>hd Q5 196 3 [(2,(aG D)),gQ 3,gQ 6,gQ 8,(12,(.pv (.dD 1 (List.map FSt.enc [])))),(13,(aG q)),(14,(aG w))] [(3,(Hp z)),(6,(ff B)),(8,(.box 30 [(.row 5128)])),(5128,(dO l))]
abbrev t552_3a:=λD q w z B l=>hd Q5 196 3 [(2,(aG D)),gQ 3,gQ 6,gQ 8,(12,(.pv (.dD 1 (List.map FSt.enc [])))),(13,(aG q)),(14,(aG w))] [(3,(Hp z)),(6,(ff B)),(8,(.box 30 [(.row 5128)])),(5128,(dO l))]
abbrev f437:=λl=>rn Q5 197 [(mu l)]
abbrev Qq:=λl q w z B=>hd Q5 197 6 [gQ 1,gQ 2,(18,(dR l)),(19,(aG q)),(20,(aG w))] [(1,(ff z)),(2,(ff B))]
abbrev f68:=λl=>rn Q22 198 [(gV l)]
abbrev YE:=λl q=>hd Q22 198 2 [(0,(gV l)),(3,(aG q))] []
abbrev f63:=λl q=>rn Q2 199 [(gV l),(gV q)]
abbrev YD:=λl q w z=>hd Q2 199 2 [(1,(gV l)),(7,(gV q)),(8,(aG w)),(9,(aG z))] []
abbrev f166:=λl=>rn Q2 200 [(Yd l)]
abbrev f167:=λl=>rn Q2 201 [(Yd l)]
abbrev f340:=λw l q=>rn Q2 202 [(cr w),(aG l),(aG q)]
abbrev f536:=λw l z q=>rn Q7 203 [(cr w),(mu l),(fe z),(mu q)]
abbrev f537:=λq l w z=>rn Q7 204 [(cr q),(mu l),(fe w),(fe z)]
abbrev f336:=λw l q=>rn Q20 205 [(cr w),(aG l),(aG q)]
abbrev f356:=λq w l=>rn Q20 206 [(cr q),(aG w),(aG l)]
abbrev Qf:=λl w q=>hd Q20 206 3 [(2,(aG l)),(8,(KZ w)),(9,(aG q))] []
abbrev f339:=λw l q=>rn Q2 216 [(cr w),(aG l),(aG q)]
abbrev f559:=λq l=>dec (Rm) (Rn 217 [(.row 20000),(dR q)] [(20000,(dO l))])
abbrev f456:=λq l=>rn Q4 218 [(pg_Node q),(aG l)]
abbrev LR:=λl w z B D q=>hd Q4 218 5 [(1,(aG l)),(5,(.row 11)),(13,(kS w)),(14,(aG z)),(15,(aG B))] [(2,(Cn D)),(11,(S8 q))]
abbrev f457:=λq l=>rn Q16 219 [(mu q),(aG l)]
abbrev LS:=λD F G I z B l q w=>hd Q16 219 8 [gQ 2,gQ 4,gQ 5,gQ 8,(22,(.row 5096)),(23,(aG D)),(24,(aG F))] [(2,(ff G)),(4,(ff I)),(5,(.box 305 [(.row 13)])),(6,(.box 87 [(.row 5096)])),(8,(.box 30 [(.row 20)])),(13,(w8 z)),(20,(dO B)),(5096,(dY l)),(5128,(dO q)),(5336,(dO w))]
abbrev FP:=λN z G I K L O Q B D F l q w=>hd Q16 219 12 [gQ 2,gQ 4,gQ 5,gQ 8,(9,(aG N)),(10,(aG z)),(11,(.row 36)),(22,(.row 5096)),(23,(aG G)),(24,(aG I)),(38,(aG K)),(39,(aG L))] [(2,(ff O)),(4,(ff Q)),(5,(.box 305 [(.row 13)])),(6,(.box 87 [(.row 5096)])),(8,(.box 30 [(.row 20)])),(13,(w8 B)),(20,(dO D)),(36,(iT F)),(5096,(dY l)),(5128,(dO q)),(5336,(dO w))]
abbrev f107:=λl q=>rn Q31 220 [(gV l),(aG q)]
abbrev f440:=λw l q=>rn Q7 221 [(cr w),(mu l),(mu q)]
abbrev f430:=λq l=>rn Q16 222 [(fe q),(mu l)]
abbrev LJ:=λB q w z l=>hd Q16 222 3 [(0,(fe B)),gQ 3,gQ 4,gQ 5,(6,(aG q))] (tl7 w z l)
abbrev LK:=λB q w z l=>hd Q16 222 7 [(0,(fe B)),gQ 3,gQ 4,gQ 5,(7,(aG q))] (tl7 w z l)
abbrev Jc:=λK D F B G I z l q w=>hd Q16 222 12 [(0,(fe K)),gQ 3,gQ 4,gQ 5,(7,(aG D)),gQ 8,(9,(kS F)),(10,(aG B))] [(3,(ff G)),(4,(ff I)),(5,(.box 30 [(.row 5080)])),(8,(.box 64 [(aG z),(.row 5705)])),(5080,(dO l)),(5129,(iT q)),(5705,(iT w))]
abbrev f544:=λl q=>rn Q16 223 [(fe l),(fe q)]
abbrev f354:=λq l=>rn Q20 224 [(cr q),(gV l)]
abbrev Qe:=λl q w=>hd Q20 224 2 [(1,(gV l)),gQ 2,(6,(aG q))] [(2,(eC w))]
abbrev E488r (l:FSt):=eD Q15 (dT 10000 (.box 87 [(.row 20004)]) (dT 10001 (.box 305 [(.row 10005)]) (dT 10002 (ff l) (dT 10003 (.box 306 [(.cl 256 [.p 10000, .p 10001, .p 10002, .p 10003])]) (dI 20004 (iR 3 1 (dS .i64)) (dJ 10005 (iM 3 3 V3 V3) dZ))))))
abbrev f488:=λz l w q=>dec (E488r l) (Rn 256 [(aG z),(.ptr 10000 0),(.ptr 10001 0),(.ptr 10002 0),(.ptr 10003 0)] [(10000,(.box 87 [(.row 20004)])),(10001,(.box 305 [(.row 10005)])),(10002,(ff l)),(10003,(.box 306 [(.cl 256 [.p 10000, .p 10001, .p 10002, .p 10003])])),(20004,(dY w)),(10005,(w8 q))])
abbrev LV:=λz B o25 l q w=>hx (E488r l) 256 3 [10000,10001,10002,10003,20004,10005] [(2,(.ptr 10001 0)),(4,(.ptr 10003 0)),vC 25,(26,(aG z)),(27,(aG B))] [(25,(iT o25)),(10000,(.box 87 [(.row 20004)])),(10001,(.box 305 [(.row 10005)])),(10002,(ff l)),(10003,(.box 306 [(.cl 256 [.p 10000, .p 10001, .p 10002, .p 10003])])),(10005,(w8 q)),(20004,(dY w))]
abbrev f490:=λ(l:List cD)=>rn Q34 257 [(.pv (.fn 302 [(.ref [(.dD 2 (List.map cD.enc l))])])),(.pv (.fn 259 []))]
abbrev f489:=λl=>rn Q33 258 [(kS l)]
abbrev f448:=λl q=>rn Q32 260 [(dR l),(dR q)]
abbrev LN:=λl q w z=>hd Q32 260 3 [(0,(dR l)),(1,(dR q)),(5,(.row 9)),(6,(aG w))] [(9,(dO z))]
abbrev Qv:=λz B D F w G l q=>hd Q32 260 7 [(0,(dR z)),(1,(dR B)),(5,(.row 9)),(6,(aG D)),gQ 7,(8,(aG F))] [(7,(.box 64 [(aG w),(.row 5369)])),(9,(dO G)),(5113,(iT l)),(5369,(iT q))]
abbrev f451:=λq l=>rn Q14 261 [(dR q),(fe l)]
abbrev LP:=λz D w B l q=>hd Q14 261 5 [(0,(dR z)),(1,(fe D)),(5,(.row 20)),(6,(.row 23)),vC 7,(8,(aG w))] [(7,(kC B)),(20,(dY l)),(23,(nY q))]
abbrev tD:=λw z l q=>hd Q14 261 11 [(5,(.row 20)),(6,(.row 23)),vC 7,(9,(aG w))] [(7,(kC z)),(20,(dY l)),(23,(nY q))]
abbrev Ag:=λD q l w F z B=>hd Q14 261 17 [(5,(.row 20)),(6,(.row 23)),vC 7,(9,(aG D)),(10,(aG q)),(11,(aG l)),(12,(aG w))] [(7,(kC F)),(20,(dY z)),(23,(nY B))]
abbrev FM:=λF q l z G B D w=>hd Q14 261 23 [(5,(.row 20)),(6,(.row 23)),vC 7,(9,(aG F)),(10,(aG q)),(11,(aG l)),(13,(.row 112)),(14,(aG z))] [(7,(kC G)),(20,(dY B)),(23,(nY D)),(112,(iT w))]
abbrev f450:=λl q w=>rn Q14 262 [(fe l),(aG q),(aG w)]
abbrev LO:=λq l w ZT=>hd Q14 262 5 [(7,(aG q)),(8,(aG l)),(9,(.row 29)),(10,(aG w))] [(29,(dY ZT))]
abbrev f449:=λl=>rn Q24 263 [(aG l)]
abbrev Qw:=λq l w=>hd Q24 263 3 [(0,(aG q)),vC 3,(4,(aG l))] [(3,(dY w))]
abbrev f452:=λq w l=>rn Q21 264 [(cr q),(dR w),(fe l)]
abbrev B7:=λw B q z l=>hd Q21 264 3 [(1,(dR w)),(2,(fe B)),gQ 3,(8,(.row 15)),(9,(aG q))] [(3,(eC z)),(15,(dY l))]
abbrev FN:=λw z l q=>hd Q21 264 10 [(1,(dR w)),(2,(fe z)),(8,(.row 15)),(12,(aG l))] [(15,(dY q))]
abbrev f453:=λz w l q=>rn Q16 265 [(dR z),(fe w),(fe l),(aG q)]
abbrev FO:=λD G q z B F w l=>hd Q16 265 3 [(0,(dR D)),(1,(fe G)),(2,(fe q)),(3,(aG z)),gQ 8,gQ 9,(10,(aG B))] (tl8 F w l)
abbrev CI:=λB F w z D q l=>hd Q16 265 7 [(0,(dR B)),(1,(fe F)),(3,(aG w)),gQ 8,gQ 9,(11,(aG z))] (tl8 D q l)
abbrev B8:=λF I w B z D G q l=>hd Q16 265 11 [(0,(dR F)),(1,(fe I)),(3,(aG w)),gQ 8,gQ 9,(11,(aG B)),(12,(aG z)),(13,(aG D))] (tl8 G q l)
abbrev f553:=λw (q:List Node) (l:List (Option (List cD)))=>dec (Io) (Rn 266 [(.ag [.r 9000]),(fe w)] [(9000,(.rn 64 2 1 61 2 (List.map (kF Node.enc 1) q) (qg cD.enc l)))])
abbrev Am:=λD z w B (q:List Node) (l:List (Option (List cD)))=>hx (Io) 266 3 [] [(1,(fe D)),gQ 2,gQ 4,(6,(aG z)),(7,(aG w))] [(2,(.box 30 [(.row 9000)])),(4,(ff B)),(9000,(.rn 64 2 1 61 2 (List.map (kF Node.enc 1) q) (qg cD.enc l)))]
abbrev f491:=λq l=>rn Q20 303 [(kS q),(aG l)]
abbrev QA:=λw l q=>hd Q20 303 2 [(0,(kS w)),(1,(aG l)),(6,(aG q))] []
abbrev f476:=λq w l=>rn Q20 304 [(mu q),(aG w),(aG l)]
abbrev Qy:=λl w q=>hd Q20 304 3 [(2,(aG l)),(8,(kS w)),(9,(aG q))] []
abbrev f436:=λq l=>rn Q16 305 [(mu q),(aG l)]
abbrev Qo:=λB D F G l q w z=>hd Q16 305 3 [(1,(aG B)),gQ 2,gQ 4,(5,(.ptr 14 0)),(6,(aG D))] [(2,(ff F)),(4,(ff G)),(14,(.box 379 [(dR l),(.row 5209),(.row 5210)])),(5208,(dO q)),(5209,(dY w)),(5210,(dY z))]
abbrev GV:=λD F G l q w z B=>hd Q16 305 9 [gQ 2,gQ 4,(5,(.ptr 14 0)),gQ 7,(8,(aG D))] [(2,(ff F)),(4,(ff G)),(7,(.box 30 [(.row 5112)])),(14,(.box 379 [(dR l),(.row 5209),(.row 5210)])),(5112,(dO q)),(5208,(dO w)),(5209,(dY z)),(5210,(dY B))]
abbrev FK:=λG D I K L l F q w z B=>hd Q16 305 14 [gQ 2,gQ 4,(5,(.ptr 14 0)),gQ 7,(8,(aG G)),gQ 9,(10,(.row 56)),(11,(aG D))] [(2,(ff I)),(4,(ff K)),(7,(.box 30 [(.row 5112)])),(9,(Cn L)),(14,(.box 379 [(dR l),(.row 5209),(.row 5210)])),(56,(iT F)),(5112,(dO q)),(5208,(dO w)),(5209,(dY z)),(5210,(dY B))]
abbrev E455r (l:List Node):=eD Q15 (dT 10000 (.box 379 [(dR l),(.row 20001),(.row 20002)]) (dI 20001 (iR 3 1 (dS .i64)) (dJ 20002 (iR 3 1 (dS .i64)) dZ)))
abbrev f455:=λz l q w=>dec (E455r l) (Rn 338 [(.ptr 10000 0),(aG z)] [(10000,(.box 379 [(dR l),(.row 20001),(.row 20002)])),(20001,(dY q)),(20002,(dY w))])
abbrev LQ:=λB z l q w=>hx (E455r l) 338 4 [10000,20001,20002] [(0,(.ptr 10000 0)),(4,(kS B)),(5,(aG z))] [(10000,(.box 379 [(dR l),(.row 20001),(.row 20002)])),(20001,(dY q)),(20002,(dY w))]
abbrev f463:=λl=>rn Q34 339 [(kS l)]
abbrev Ah:=λq l w=>hd Q34 339 3 [(0,(kS q)),vC 3,(4,(aG l))] [(3,(iT w))]
abbrev Je:=λq l z w=>hd Q34 339 6 [(0,(kS q)),vC 3,(4,(aG l)),(5,(aG z))] [(3,(iT w))]
end
