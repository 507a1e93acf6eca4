/- The functions and loops as plain ones, by program (decomp8.p. -/
import Derived.Test.YtacapiamkgkkjaaGreatDoorClT
set_option linter.all false
set_option maxRecDepth 100000
namespace Go.Proofs.YtacapiamkgkkjaaGreatDoor.cl
noncomputable section
open Go Go.AM
abbrev f561:=λl q=>rn Q2 4 [(bC l),(lK q)]
abbrev f403:=λl=>rn Q0 5 [(bC l)]
abbrev f499:=rn Q2 7 []
abbrev f500:=λq w l=>rn Q3 8 [(cB q),(cV w),(ki l)]
abbrev S0:=λw q l=>dec (C1) (Rn 9 [(cB w),(.row 10000),(ki q)] [(10000,(fV l))])
abbrev f407:=λl q=>rn Q2 10 [(nP l),(nP q)]
abbrev f502:=λl=>rn Q2 11 [(lK l)]
abbrev RA:=λq l=>hd Q2 11 4 [(0,(lK q)),(3,(aD l))] []
abbrev f562:=λl q=>rn Q4 12 [(cB l),(lK q)]
abbrev RL:=λD F G I l q w z B=>hd Q4 12 7 [(8,(cV D)),(9,(.ptr 5416 0)),(27,(lK F)),(28,(aD G)),(29,(aD I))] [(5416,(.box 84 [(eU l),(dW q),(cV w),(.row 5417),(dP z)])),(5417,(rF B))]
abbrev f504:=λl q=>rn Q4 13 [(cB l),(lK q)]
abbrev Ms:=λl q w=>hd Q4 13 5 [(1,(lK l)),gP 2,yq 7] [(2,(eL q)),(7,(fV w))]
abbrev F5:=λq l=>hd Q4 13 11 [yq 7,yq 10] [(7,(fV q)),(10,(fV l))]
abbrev AF:=λl q z w=>hd Q4 13 14 [yq 7,yq 10,(11,(aD l)),(12,(aD q))] [(7,(fV z)),(10,(fV w))]
abbrev f563:=λl q=>rn Q2 14 [(cV l),(cV q)]
abbrev RM:=λl q w=>hd Q2 14 4 [(0,(cV l)),(1,(cV q)),(5,(aD w))] []
abbrev f332:=λl=>rn Q5 15 [(bC l)]
abbrev QX:=λw F B z D l q=>hd Q5 15 7 [(0,(bC w)),gP 2,(4,(Qi F)),(6,(ij B)),gP 8,(9,(aD z))] [(2,(eL D)),(8,(.box 36 [(.row 5128),(.row 5129)])),(5128,(yu l)),(5129,(rI q))]
abbrev f327:=rn Q6 16 []
abbrev f503:=λl=>rn Q2 17 [(ki l)]
abbrev f414:=λl=>dec (Em) (Rn 19 [(aD l)] [])
abbrev f505:=λl q=>dec (MJ) (Rn 20 [(cB l),(cV q)] [])
abbrev E506r (l:List fL) (q:List dg) (w:List Template):=eD Q3 (dI 10000 (iL 84 [(eU l),(dW q),(cV w),(.row 10001)] 2 Node.enc) (dJ 10001 (iM 9 107 V9 Bh) dZ))
abbrev HU:=λD l q w z B=>dec (E506r l q w) (Rn 21 [(.ptr 10000 0),(ki D)] (Xt l q w z B))
abbrev f507:=λq w l=>rn Q2 22 [(cB q),(cV w),(ki l)]
abbrev pJ:=λz l q w=>hd Q2 22 12 [(1,(cV z)),gP 3,gP 5,(7,(aD l))] [(3,(eL q)),(5,(kP w))]
abbrev F6:=λz l q w=>hd Q2 22 17 [(1,(cV z)),gP 3,gP 5,(8,(aD l))] [(3,(eL q)),(5,(kP w))]
abbrev r8:=λD (w:List Node) (z:Bool) F B l q=>dec (ug) (Rn 23 [(cB D),(.row 10000),(.ag [.v (.dK 2 (List.map Node.enc w)), .v (.bool z), .r 20001]),(fq F),(ki B)] (afl l q))
abbrev wY:=λK D B G w z I F l q=>hx (ug) 23 11 [10000,20001] [(1,(.row 10000)),(3,(fq K)),gP 5,gP 7,gP 9,gP 10,(11,(aD D)),(12,(aD B))] ((5,(eL G))::(7,(.box 74 [(dP w),(pb_ z),(.row 20001)]))::(9,(kP I))::(10,(zY F))::(afl l q))
abbrev F7:=λB G w z I D F l q=>hx (ug) 23 18 [10000,20001] [(1,(.row 10000)),gP 5,gP 7,gP 9,gP 10,(13,(.row 72)),(14,(aD B))] ((5,(eL G))::(7,(.box 74 [(dP w),(pb_ z),(.row 20001)]))::(9,(kP I))::(10,(zY D))::(72,(eB F))::(afl l q))
abbrev f441:=λq l=>rn Q7 24 [(cB q),(nP l)]
abbrev Rq:=λl q w z B=>hd Q7 24 3 [gP 2,gP 3,gP 4,yq 6,(7,(aD l))] (tl15 q w z B)
abbrev AA:=λl q w z B=>hd Q7 24 7 [gP 2,gP 3,gP 4,yq 6,(8,(pb_ l))] (tl15 q w z B)
abbrev xU:=λl q w z B D=>hd Q7 24 10 [gP 2,gP 3,gP 4,yq 6,(9,(fq l)),(10,(aD q))] (tl15 w z B D)
abbrev xV:=λl q z w B D F G=>hd Q7 24 14 [gP 2,gP 3,gP 4,yq 6,(9,(fq l)),(10,(aD q)),(11,(lJ z)),(12,(aD w))] (tl15 B D F G)
abbrev JK:=λq w z B l=>hd Q7 24 21 [gP 3,gP 4,yq 6,gP 13,(14,(aD q))] [(3,(eT w)),(4,(eT z)),(6,(eB B)),(13,(.box 30 [(.row 5208)])),(5208,(dX l))]
abbrev f418:=λl q=>rn Q8 25 [(nP l),(nP q)]
abbrev Rk:=λq w l=>hd Q8 25 4 [(5,(fq q)),(6,(fq w)),(7,(aD l))] []
abbrev f523:=λl=>rn Q2 26 [(Ao l)]
abbrev RF:=λl q=>hd Q2 26 4 [gP 1,(3,(aD l))] [(1,(yD q))]
abbrev f564:=λl=>rn Q9 27 [(lK l)]
abbrev Hr:=λw z l q=>hd Q9 27 5 [(4,(.row 14)),gP 5,(18,(.row 14)),(19,(aD w)),(20,(aD z))] [(5,(.box 137 [(.row 17)])),(14,(iy l)),(17,(mR q))]
abbrev Ga:=λw z l q=>hd Q9 27 12 [(4,(.row 14)),gP 5,(32,(.row 14)),(33,(aD w)),(34,(aD z))] [(5,(.box 137 [(.row 17)])),(14,(iy l)),(17,(mR q))]
abbrev vP:=λl q w=>hd Q9 27 19 [(4,(.row 14)),gP 10,yq 11] [(10,(.box 137 [(.row 43)])),(11,(iy l)),(14,(iy q)),(43,(mR w))]
abbrev abn (l:List fL) (q:List dg) (w:List Template):=eD Q16 (dI 10000 (iL 84 [(eU l),(dW q),(cV w),(.row 10001)] 2 Node.enc) (dJ 10001 (iM 9 107 V9 Bh) dZ))
abbrev f567:=λD l q w z B=>dec (abn l q w) (Rn 28 [(.ptr 10000 0),(Ao D)] (Xt l q w z B))
abbrev RN:=λ(D:List bQ) F G I K L N l q w z B=>hx (abn l q w) 28 6 [10000,10001] [(0,(.ptr 10000 0)),gP 3,gP 4,gP 7,yq 9,(30,(.pv (.dK 4 (List.map bQ.iw D)))),(31,(aD F)),(32,(aD G))] ((3,(yD I))::(4,(eT K))::(7,(eT L))::(9,(y5 N))::(Xt l q w z B))
abbrev Gb:=λF G I K L D l q w z B=>hx (abn l q w) 28 14 [10000,10001] [(0,(.ptr 10000 0)),gP 4,gP 7,yq 9,(53,(.row 5857)),(54,(aD F)),(55,(aD G))] ((4,(eT I))::(7,(eT K))::(9,(y5 L))::(5857,(dQ D))::(Xt l q w z B))
abbrev E528r (l:List fL) (q:List dg) (w:List Template):=eD Q17 (dI 10000 (iL 84 [(eU l),(dW q),(cV w),(.row 10001)] 2 Node.enc) (dJ 10001 (iM 9 107 V9 Bh) dZ))
abbrev HW:=λD l q w z B=>dec (E528r l q w) (Rn 29 [(.ptr 10000 0),(tF D)] (Xt l q w z B))
abbrev f569:=λq w l=>dec (R8) (Rn 30 [(.row 20000),(aD q),(cV w)] [(20000,(fV l))])
abbrev f568:=λl=>rn Q18 31 [(cV l)]
abbrev f512:=λl=>rn Q8 32 [(lK l)]
abbrev Mt:=λq l=>hd Q8 32 2 [(0,(lK q)),(3,(aD l))] []
abbrev Hl:=λq l=>hd Q8 32 7 [(0,(lK q)),(4,(aD l))] []
abbrev JM:=λw l z q=>hd Q8 32 11 [(0,(lK w)),(4,(aD l)),(5,(cT z)),(6,(aD q))] []
abbrev vN:=λl q=>hd Q8 32 16 [(0,(lK l)),yq 7] [(7,(fV q))]
abbrev f527:=λq w l=>dec (Bc) (Rn 33 [(cB q),(.row 10000),(Ao w)] [(10000,(fV l))])
abbrev Mv:=λG I K L N q w z B D F l=>hx (Bc) 33 6 [10000] [(1,(.row 10000)),gP 3,gP 5,gP 6,gP 10,(11,(aD G))] ((3,(eL I))::(5,(yD K))::(tl14 L N q w z B D F l))
abbrev F9:=λI G K L q w z B D F l=>hx (Bc) 33 14 [10000] [(1,(.row 10000)),gP 6,gP 10,(14,(cT I)),(15,(aD G))] (tl14 K L q w z B D F l)
abbrev f526:=λq l=>rn Q8 34 [(cV q),(lK l)]
abbrev tj:=λz w l q=>hd Q8 34 3 [(0,(cV z)),(1,(lK w)),(5,(aD l)),(6,(aD q))] []
abbrev f515:=λq l=>rn Q8 35 [(cV q),(tF l)]
abbrev RC:=λw l q=>hd Q8 35 2 [(0,(cV w)),(1,(tF l)),(5,(aD q))] []
abbrev f402:=λl q=>rn Q2 36 [(Qh l),(Qh q)]
abbrev Rj:=λl q w=>hd Q2 36 4 [(0,(Qh l)),(1,(Qh q)),(5,(aD w))] []
abbrev f323:=λl=>rn Q10 37 [(bC l)]
abbrev L9:=λl w q B z=>hd Q10 37 8 [(0,(bC l)),(5,(ij w)),(7,(cT q)),yq 8,(9,(aD B))] [(8,(y3 z))]
abbrev FW:=λw B z F l D q=>hd Q10 37 12 [(0,(bC w)),(5,(ij B)),(7,(cT z)),yq 8,(9,(aD F)),yq 10,(11,(aD l))] [(8,(y3 D)),(10,(LV q))]
abbrev f15:=λl=>rn Q11 38 [(bC l)]
abbrev Ze:=λq l w z=>hd Q11 38 7 [(0,(bC q)),(5,(cT l)),yq 6,(7,(aD w))] [(6,(B7 z))]
abbrev Eg:=λB q l D w z=>hd Q11 38 15 [(0,(bC B)),(5,(cT q)),(6,(vL l)),(8,(vL D)),(9,(ij w)),(10,(aD z))] []
abbrev QV:=λF q l G w z D B=>hd Q11 38 19 [(0,(bC F)),(5,(cT q)),(6,(vL l)),(8,(vL G)),(9,(ij w)),(10,(aD z)),gP 11,(12,(aD D))] [(11,(Sk B))]
abbrev f28:=λq l=>rn Q13 39 [(ij q),(aD l)]
abbrev IU:=λw l q z=>hd Q13 39 3 [(0,(ij w)),(1,(aD l)),yq 5,(6,(aD q))] [(5,(eB z))]
abbrev IV:=λz q w l B D=>hd Q13 39 8 [(0,(ij z)),(1,(aD q)),yq 5,(6,(aD w)),(7,(pb_ l)),(8,(aD B))] [(5,(eB D))]
abbrev f320:=λl=>rn Q21 40 [(bC l)]
abbrev QW:=λl z q w B=>hd Q21 40 8 [(0,(bC l)),(5,(ij z)),(7,(cT q)),yq 8,(9,(aD w))] [(8,(rI B))]
abbrev f351:=λw q l=>rn Q12 41 [(tF w),(tF q),(cT l)]
abbrev QZ:=λl G I D F q w z B=>hd Q12 41 5 [(2,(cT l)),gP 6,gP 7,(8,(aD G))] [(6,(sL I)),(7,(.box 116 [(tF D),(.row 14),(.row 5162)])),(14,(dQ F)),(5113,(dQ q)),(5114,(qL w)),(5161,(dQ z)),(5162,(qL B))]
abbrev JE:=λl F G D q w z B=>hd Q12 41 5 [(2,(cT l)),gP 6,gP 7,(8,(aD F))] [(6,(sL G)),(7,(.box 116 [(tF D),(.row 5161),(.row 5162)])),(5113,(dQ q)),(5114,(qL w)),(5161,(dQ z)),(5162,(qL B))]
abbrev f509:=λq l=>rn Q2 42 [(ki q),(aD l)]
abbrev f510:=λl=>rn Q8 43 [(ki l)]
abbrev f511:=λl=>rn Q2 44 [(ki l)]
abbrev RB:=λl q=>hd Q2 44 4 [gP 1,(3,(aD l))] [(1,(kP q))]
abbrev Nn (l:List fL) (q:List dg) (w:List Template):=eD Q2 (dI 10000 (iL 84 [(eU l),(dW q),(cV w),(.row 10001)] 2 Node.enc) (dJ 10001 (iM 9 107 V9 Bh) dZ))
abbrev Nz:=λD l q w z B=>dec (Nn l q w) (Rn 46 [(.ptr 10000 0),(ki D)] (Xt l q w z B))
abbrev mY:=λD F G I l q w z B=>hx (Nn l q w) 46 14 [10000,10001] [gP 2,gP 3,(48,(cT D)),(49,(aD F)),(50,(aD G))] ((2,(.box 68 [(.ptr 10000 0)]))::(3,(kP I))::(Xt l q w z B))
abbrev tv:=λD F l q w z B=>dec (Nn l q w) (Rn 47 [(.ptr 10000 0),(ki D),(fq F)] (Xt l q w z B))
abbrev f434:=λq l=>rn Q7 48 [(cB q),(nP l)]
abbrev Rm:=λF G I K L N l q w z B D=>hd Q7 48 3 [gP 3,gP 4,(6,(.ptr 14 0)),(16,(dP F)),(17,(aD G)),(18,(aD I))] (tl12 K L N l q w z B D)
abbrev Eh:=λF G I K l q w z B D=>hd Q7 48 9 [gP 3,gP 4,(6,(.ptr 14 0)),(9,(aD F))] (tl12 G I K l q w z B D)
abbrev FX:=λK L N O l q I w z B D F G=>hd Q7 48 15 [gP 4,(6,(.ptr 14 0)),gP 10,(72,(aD K)),(73,(aD L))] [(2,(eL N)),(4,(eT O)),(10,(.box 30 [(.row 68)])),(14,(.box 184 [(eU l),(dW q),(.row 5210),(.row 5211)])),(68,(dX I)),(5160,(dX w)),(5208,(yu z)),(5209,(rI B)),(5210,(eB D)),(5211,(eB F)),(6104,(dX G))]
abbrev f364:=λq l=>rn Q8 49 [(cB q),(tF l)]
abbrev Rg:=λl q w=>hd Q8 49 2 [(1,(tF l)),gP 2,(5,(aD q))] [(2,(eL w))]
abbrev f516:=λl=>rn Q2 50 [(cB l)]
abbrev f365:=λq l=>rn Q8 51 [(cB q),(tF l)]
abbrev Rh:=λl q w=>hd Q8 51 2 [(1,(tF l)),gP 2,(5,(aD q))] [(2,(eL w))]
abbrev f517:=λB (w:List Node) (z:Bool) D q l=>dec (CV) (Rn 52 [(cB B),(.ag [.v (.dK 2 (List.map Node.enc w)), .v (.bool z), .r 20000]),(fq D),(tF q)] [(20000,(qc l))])
abbrev f518:=λB (q:List Node) (w:Bool) D z l=>dec (IX) (Rn 53 [(cB B),(.ag [.v (.dK 2 (List.map Node.enc q)), .v (.bool w), .r 20000]),(fq D),(nP z)] [(20000,(qc l))])
abbrev f519:=λB (w:List Node) (z:Bool) D q l=>dec (OF) (Rn 54 [(cB B),(.ag [.v (.dK 2 (List.map Node.enc w)), .v (.bool z), .r 20000]),(fq D),(tF q)] [(20000,(qc l))])
abbrev RD:=λG q B D w z F l=>hx (OF) 54 2 [20000] [(2,(fq G)),(3,(tF q)),gP 4,gP 5,gP 8,(9,(aD B))] [(4,(eL D)),(5,(.box 74 [(dP w),(pb_ z),(.row 20000)])),(8,(zY F)),(20000,(qc l))]
abbrev XT:=λB (w:List Node) (z:Bool) F (D:List bQ) l q=>dec (yy) (Rn 55 [(cB B),(.row 10000),(.ag [.v (.dK 2 (List.map Node.enc w)), .v (.bool z), .r 20001]),(fq F),(.pv (.dK 4 (List.map bQ.iw D)))] (afl l q))
abbrev vO:=λI (F:List bQ) B G w z D l q=>hx (yy) 55 2 [10000,20001] [(1,(.row 10000)),(3,(fq I)),(4,(.pv (.dK 4 (List.map bQ.iw F)))),gP 5,gP 7,gP 10,(11,(aD B))] ((5,(eL G))::(7,(.box 74 [(dP w),(pb_ z),(.row 20001)]))::(10,(zY D))::(afl l q))
abbrev f521:=λw l q=>rn Q13 56 [(fq w),(aD l),(aD q)]
abbrev RE:=λl q w=>hd Q13 56 2 [(1,(aD l)),(2,(aD q)),(7,(.row 8))] [(8,(eB w))]
abbrev f522:=λz (q:List Node) (w:Bool) B D l=>dec (OG) (Rn 57 [(cB z),(.ag [.v (.dK 2 (List.map Node.enc q)), .v (.bool w), .r 20000]),(fq B),(fq D)] [(20000,(qc l))])
abbrev E477r:=eR Q2 10000 3 1 (eC .i64)
abbrev f477:=λq w z l=>dec (E477r) (Rn 58 [(cB q),(.row 10000),(aD w),(pg_Arc z)] [(10000,(eB l))])
abbrev f471:=λl q=>rn Q2 59 [(fq l),(fq q)]
abbrev Rv:=λl q w=>hd Q2 59 2 [(0,(fq l)),(1,(fq q)),(5,(aD w))] []
abbrev f432:=λl=>rn Q13 60 [(nP l)]
abbrev Mi:=λq w l=>hd Q13 60 3 [gP 1,(3,(.row 10)),(4,(aD q))] [(1,(eT w)),(10,(eB l))]
abbrev Rl:=λq z w B l=>hd Q13 60 8 [gP 1,(3,(.row 10)),(4,(aD q)),(5,(lJ z)),(6,(aD w))] [(1,(eT B)),(10,(eB l))]
abbrev f110:=λl=>rn Q2 61 [(tF l)]
abbrev f565:=λl=>rn Q14 62 [(lK l)]
abbrev Hy:=eR Q15 10000 62 6 Def.enc
abbrev f566:=λl=>dec (Hy) (Rn 63 [(.row 10000),(.pv (.fn 64 []))] [(10000,(iy l))])
abbrev f581:=λl q=>rn Q8 64 [(Ao l),(Ao q)]
abbrev f558:=λl q=>rn Q8 65 [(tF l),(tF q)]
abbrev abo (l:List ((List UInt8)×Bool)):=eZ Q2 (dS 10000 (.box 137 [(.row 10001)]) (dS 10001 (mR l) dZ))
abbrev f93a:=λq l=>dec (abo l) (Rn 66 [(cT q),(.cl 68 [.p 10000])] (tl4 l))
abbrev f93b:=λq l=>dec (abo l) (Rn 66 [(cT q),(.cl 71 [.p 10000])] (tl4 l))
abbrev f571:=λl=>rn Q20 67 [(Ao l)]
abbrev RO:=λ(q:List bQ) w z B l=>hd Q20 67 3 [(4,(.row 5193)),(16,(.pv (.dK 4 (List.map bQ.iw q)))),(17,(aD w)),(18,(aD z))] [(1,(yD B)),(5193,(dQ l))]
abbrev f579:=λq l=>dec (abo l) (Rn 68 [(tF q),(.ptr 10000 0)] (tl4 l))
abbrev E575r (l:List Def) (q:List ((List UInt8)×Bool)):=eZ Q8 (dS 10000 (iy l) (dS 10001 (.box 137 [(.row 10002)]) (dS 10002 (mR q) dZ)))
abbrev f575:=λl q=>dec (E575r l q) (Rn 69 [(.row 10000),(.cl 70 [.p 10001])] [(10000,(iy l)),(10001,(.box 137 [(.row 10002)])),(10002,(mR q))])
abbrev RP:=λw z l q=>hx (E575r l q) 69 2 [10000,10001,10002] [(0,(.row 10000)),(1,(.cl 70 [.p 10001])),(7,(aD w)),(8,(aD z))] [(10000,(iy l)),(10001,(.box 137 [(.row 10002)])),(10002,(mR q))]
abbrev f580:=λq l=>dec (abo l) (Rn 70 [(Ao q),(.ptr 10000 0)] (tl4 l))
abbrev f584:=λq l=>dec (abo l) (Rn 71 [(tF q),(.ptr 10000 0)] (tl4 l))
abbrev E576r:=eR Q33 10000 62 6 Def.enc
abbrev f576:=λq w l=>dec (E576r) (Rn 72 [(.row 10000),(aD q),(aD w)] [(10000,(iy l))])
abbrev f572:=λq l=>dec (ML) (Rn 73 [(ki q),(.row 20000)] [(20000,(dQ l))])
abbrev Hs:=λ(q:List bQ) w z B l=>hx (ML) 73 4 [20000] [(1,(.row 20000)),(23,(.pv (.dK 4 (List.map bQ.iw q)))),(24,(aD w)),(25,(aD z))] [(2,(kP B)),(20000,(dQ l))]
abbrev f540:=λq l=>rn Q17 74 [(cV q),(tF l),(.pv (.fn 75 []))]
abbrev Mx:=λB l z w q=>hd Q17 74 3 [(0,(cV B)),(1,(tF l)),(2,(.pv (.fn 75 []))),(8,(aD z)),(9,(aD w)),(10,(aD q))] []
abbrev f556:=λq l=>rn Q8 75 [(Un q),(tF l)]
abbrev f539:=λq l=>rn Q8 78 [(lK q),(tF l)]
abbrev RH:=λw l q=>hd Q8 78 2 [(0,(lK w)),(1,(tF l)),(5,(aD q))] []
abbrev f546:=λl=>rn Q20 79 [(Ao l)]
abbrev RI:=λq w l=>hd Q20 79 3 [gP 1,(3,(.row 5121)),(4,(aD q))] [(1,(yD w)),(5121,(dQ l))]
abbrev f548:=λq l=>dec (Ep) (Rn 80 [(ki q),(.row 20000)] [(20000,(dQ l))])
abbrev Ho:=λq w l=>hx (Ep) 80 4 [20000] [(1,(.row 20000)),gP 2,(5,(aD q))] [(2,(kP w)),(20000,(dQ l))]
abbrev f547:=λl q=>rn Q2 81 [(cV l),(Ao q)]
abbrev RJ:=λw q l=>hd Q2 81 3 [(0,(cV w)),(5,(cT q)),(6,(aD l))] []
abbrev f318:=λl=>rn Q8 82 [(bC l)]
abbrev JC:=λl z q w=>hd Q8 82 11 [(0,(bC l)),(3,(ij z)),(5,(cT q)),(7,(aD w))] []
abbrev FU:=λq z w l=>hd Q8 82 17 [(0,(bC q)),(3,(ij z)),(5,(cT w)),(10,(aD l))] []
abbrev FV:=λw B z q l=>hd Q8 82 20 [(0,(bC w)),(3,(ij B)),(5,(cT z)),(10,(aD q)),(11,(aD l))] []
abbrev f345:=λl=>rn Q20 83 [(bC l)]
abbrev Mb:=λq l w=>hd Q20 83 3 [(0,(bC q)),(3,(cT l)),(4,(aD w))] []
abbrev QY:=λq l w z=>hd Q20 83 6 [(0,(bC q)),(3,(cT l)),(4,(aD w)),(5,(aD z))] []
abbrev f370:=λq w z l=>rn Q28 84 [(bC q),(ij w),(aD z),(tF l)]
abbrev Hh:=λB D F q w l z=>hd Q28 84 4 [(0,(bC B)),(1,(ij D)),(2,(aD F)),(3,(tF q)),(10,(pb_ w)),(11,(gV l)),(12,(aD z))] []
abbrev f19:=λq l=>rn Q8 85 [(ij q),(gV l)]
abbrev Zf:=λq w l=>hd Q8 85 3 [(0,(ij q)),(5,(gV w)),(6,(aD l))] []
abbrev f32:=λl=>rn Q8 86 [(bC l)]
abbrev Ma:=λl w q=>hd Q8 86 12 [(0,(bC l)),(6,(aD w)),(7,(aD q))] []
abbrev f52:=λl=>rn Q20 87 [(bC l)]
abbrev Zh:=λq l w=>hd Q20 87 3 [(0,(bC q)),(3,(cT l)),(4,(aD w))] []
abbrev f53:=λw q l=>rn Q23 88 [(bC w),(cT q),(tF l)]
abbrev UR:=λl q w z=>hd Q23 88 4 [(1,(cT l)),(7,(cT q)),yq 8,(9,(aD w))] [(8,(eB z))]
abbrev f54:=λl=>rn Q24 89 [(vL l)]
abbrev Ov:=λl q=>hd Q24 89 3 [(3,(.row 7)),(4,(aD l))] [(7,(B7 q))]
abbrev Ow:=λl q w=>hd Q24 89 6 [(3,(.row 7)),(4,(aD l)),(5,(aD q))] [(7,(B7 w))]
abbrev f55:=λz q l w=>rn Q29 90 [(bC z),(cT q),(vL l),(gV w)]
abbrev US:=λB q l z w D=>hd Q29 90 3 [(0,(bC B)),(1,(cT q)),(2,(vL l)),(3,(gV z)),yq 9,(10,(aD w))] [(9,(dQ D))]
abbrev Hp:=λw q l=>hd Q29 90 12 [(9,(cT w)),(11,(tF q)),(12,(aD l))] []
abbrev f56:=λl q=>rn Q2 91 [(Um l),(Um q)]
abbrev f25:=λw l q=>rn Q2 92 [(ij w),(aD l),(aD q)]
abbrev f357:=λq l=>rn Q27 93 [(bC q),(tF l)]
abbrev Me:=λw q l z=>hd Q27 93 3 [(0,(bC w)),(1,(tF q)),(6,(cT l)),(7,(aD z))] []
abbrev f358:=λq l=>rn Q8 94 [(ij q),(tF l)]
abbrev Re:=λw l q=>hd Q8 94 2 [(0,(ij w)),(1,(tF l)),(5,(aD q))] []
abbrev f524:=λw l q=>rn Q8 95 [(ki w),(aD l),(aD q)]
abbrev RG:=λl q w z=>hd Q8 95 4 [(1,(aD l)),(2,(aD q)),gP 3,(7,(aD w))] [(3,(kP z))]
abbrev F8:=λl q z w B=>hd Q8 95 10 [(1,(aD l)),(2,(aD q)),gP 3,(8,(aD z)),(9,(aD w))] [(3,(kP B))]
abbrev f525:=λq l=>rn Q8 96 [(ki q),(aD l)]
abbrev AG:=λl q w=>hd Q8 96 11 [gP 2,(5,(aD l)),(6,(aD q))] [(2,(kP w))]
abbrev f352:=λq l=>rn Q8 99 [(cB q),(tF l)]
abbrev f529:=λl=>rn Q3 100 [(cB l),(.pv (.dK 1 (List.map FSt.enc [])))]
abbrev f363:=λq l=>rn Q8 101 [(cB q),(tF l)]
abbrev Rf:=λl z B q w=>hd Q8 101 2 [(1,(tF l)),(8,(dW z)),(9,(aD B)),(10,(aD q))] [(2,(eL w))]
abbrev E533r (l:List Int) (q:List fL) (w:List dg) (z:List Template):=eD Q2 (dT 10000 (.box 68 [(.ptr 10002 0)]) (dT 10001 (.box 107 [(fq l)]) (dI 10002 (iL 84 [(eU q),(dW w),(cV z),(.row 10003)] 2 Node.enc) (dJ 10003 (iM 9 107 V9 Bh) dZ))))
abbrev XC (l:List fL) (q:List dg) (w:List Template):=eD Q2 (dT 10000 (.box 68 [(.ptr 10001 0)]) (dI 10001 (iL 84 [(eU l),(dW q),(cV w),(.row 10002)] 2 Node.enc) (dJ 10002 (iM 9 107 V9 Bh) dZ)))
abbrev f533b:=λ(F:List bQ) l q w z B D=>dec (E533r l q w z) (Rn 102 [(.pv (.dK 4 (List.map bQ.iw F))),(.cl 107 [.p 10000, .p 10001])] (Zv l q w z B D))
abbrev XU:=λ(D:List bQ) l q w z B=>dec (XC l q w) (Rn 102 [(.pv (.dK 4 (List.map bQ.iw D))),(.cl 103 [.p 10000])] (tl3 l q w z B))
abbrev acq:=λD l q w z B=>dec (XC l q w) (Rn 103 [(ki D),(.ptr 10000 0)] (tl3 l q w z B))
abbrev wu:=λD F l q w z B=>dec (Nn l q w) (Rn 104 [(.ptr 10000 0),(fq D),(aD F)] (Xt l q w z B))
abbrev NA:=λF D l q w z B=>dec (Nn l q w) (Rn 105 [(.ptr 10000 0),(fq F),(nP D)] (Xt l q w z B))
abbrev KC:=λD F l q w z B=>dec (Nn l q w) (Rn 106 [(.ptr 10000 0),(fq D),(fq F)] (Xt l q w z B))
abbrev acp:=λF l q w z B D=>dec (E533r l q w z) (Rn 107 [(ki F),(.ptr 10000 0),(.ptr 10001 0)] (Zv l q w z B D))
abbrev E534r (l:List fL) (q:List dg) (w:List Template):=eD Q13 (dI 10000 (iL 84 [(eU l),(dW q),(cV w),(.row 10001)] 2 Node.enc) (dJ 10001 (iM 9 107 V9 Bh) dZ))
abbrev BJ:=λF B l q w z D=>dec (E534r l q w) (Rn 108 [(.ptr 10000 0),(fq F),(cT B)] (Xt l q w z D))
abbrev JN:=λF G I D l q w z B=>hx (E534r l q w) 108 3 [10000,10001] [(0,(.ptr 10000 0)),(7,(.row 11)),(12,(cT F)),(13,(aD G)),(14,(aD I))] ((11,(eB D))::(Xt l q w z B))
abbrev E535r (l:List fL) (q:List dg) (w:List Template):=eD Q22 (dI 10000 (iL 84 [(eU l),(dW q),(cV w),(.row 10001)] 2 Node.enc) (dJ 10001 (iM 9 107 V9 Bh) dZ))
abbrev NB:=λ(D:List bQ) F l q w z B=>dec (E535r l q w) (Rn 109 [(.ptr 10000 0),(.pv (.dK 4 (List.map bQ.iw D))),(fq F)] (Xt l q w z B))
abbrev CP:=λI (D:List bQ) F G l q w z B=>hx (E535r l q w) 109 2 [10000,10001] [(0,(.ptr 10000 0)),(2,(fq I)),(10,(.pv (.dK 4 (List.map bQ.iw D)))),(11,(aD F)),(12,(aD G))] (Xt l q w z B)
abbrev XB (l:List fL) (q:List dg):=eD Q2 (dT 10000 (.box 184 [(eU l),(dW q),(.row 20001),(.row 20002)]) (dI 20001 (iR 3 1 (eC .i64)) (dJ 20002 (iR 3 1 (eC .i64)) dZ)))
abbrev f461:=λB D l q w z=>dec (XB l q) (Rn 110 [(.ptr 10000 0),(nP B),(aD D)] (tl6 l q w z))
abbrev Ei:=λG B D F I l q w z=>hx (XB l q) 110 2 [10000,20001,20002] [(0,(.ptr 10000 0)),(2,(aD G)),gP 4,(18,(lJ B)),(19,(aD D)),(20,(aD F))] ((4,(eT I))::(tl6 l q w z))
abbrev CO:=λG B D F l q w z=>hx (XB l q) 110 8 [10000,20001,20002] [(0,(.ptr 10000 0)),(2,(aD G)),(44,(lJ B)),(45,(aD D)),(46,(aD F))] (tl6 l q w z)
abbrev f462:=λl=>rn Q31 111 [(dP l)]
abbrev f340:=λw l q=>rn Q2 112 [(cB w),(aD l),(aD q)]
abbrev f536:=λw l z q=>rn Q7 113 [(cB w),(nP l),(fq z),(nP q)]
abbrev f537:=λq l w z=>rn Q7 114 [(cB q),(nP l),(fq w),(fq z)]
abbrev f336:=λw l q=>rn Q17 115 [(cB w),(aD l),(aD q)]
abbrev f356:=λq w l=>rn Q17 116 [(cB q),(aD w),(aD l)]
abbrev Rc:=λl w q=>hd Q17 116 3 [(2,(aD l)),(8,(Lx w)),(9,(aD q))] []
abbrev f140:=λq l=>rn Q2 117 [(tF q),(pb_ l)]
abbrev L8:=λw l q=>hd Q2 117 4 [(0,(tF w)),(1,(pb_ l)),(5,(aD q))] []
abbrev f570:=λq l=>dec (Hy) (Rn 118 [(.row 10000),(aD q),(.pv (.fn 64 []))] [(10000,(iy l))])
abbrev Xr:=λB l w z q=>hx (Hy) 118 2 [10000] [(0,(.row 10000)),(1,(aD B)),(2,(.pv (.fn 64 []))),(6,(aD l)),(7,(aD w)),(8,(aD z))] [(10000,(iy q))]
abbrev afh:=λw l q=>hx (Hy) 118 7 [10000] [(0,(.row 10000)),(1,(aD w)),(2,(.pv (.fn 64 []))),(6,(aD l))] [(10000,(iy q))]
abbrev t570_9:=λB l w z q=>hx (Hy) 118 9 [10000] [(0,(.row 10000)),(1,(aD B)),(2,(.pv (.fn 64 []))),(6,(aD l)),(7,(aD w)),(8,(aD z))] [(10000,(iy q))]
abbrev XA (l:List ((List UInt8)×Bool)):=eZ Q8 (dS 10000 (.box 137 [(.row 10001)]) (dS 10001 (mR l) dZ))
abbrev f126b:=λq l=>dec (XA l) (Rn 120 [(cT q),(.cl 68 [.p 10000])] (tl4 l))
abbrev f126c:=λq l=>dec (XA l) (Rn 120 [(cT q),(.cl 71 [.p 10000])] (tl4 l))
abbrev JA:=λq w z l=>hx (XA l) 120 2 [10000,10001] [(0,(cT q)),(1,(.cl 68 [.p 10000])),(7,(aD w)),(8,(aD z))] (tl4 l)
abbrev JB:=λq w z l=>hx (XA l) 120 2 [10000,10001] [(0,(cT q)),(1,(.cl 71 [.p 10000])),(7,(aD w)),(8,(aD z))] (tl4 l)
abbrev f574:=λl=>dec (DJ) (Rn 121 [(ki l)] [])
abbrev afi:=λl q=>hx (DJ) 121 6 [] [gP 4,gP 5,(13,(.aq 13 (.bs 2))),(14,(.pv (.int .i64 2))),(15,(.pv (.int .i64 0)))] (tl7 l q)
abbrev Zi:=λl q=>hx (DJ) 121 6 [] [gP 4,gP 5,(13,(.aq 13 (.bs 2))),(14,(.pv (.int .i64 2))),(15,(.pv (.int .i64 1)))] (tl7 l q)
abbrev Zj:=λl q=>hx (DJ) 121 6 [] [gP 4,gP 5,(13,(.aq 13 (.bs 2))),(14,(.pv (.int .i64 2))),(15,(.pv (.int .i64 2)))] (tl7 l q)
abbrev f92:=λl q=>rn Q2 122 [(cT l),(tF q)]
abbrev f555:=λl q=>rn Q2 124 [(cT l),(tF q)]
abbrev RK:=λq w l=>hd Q2 124 2 [(0,(cT q)),(1,(tF w)),(5,(aD l))] []
abbrev f346:=λl=>rn Q8 125 [(bC l)]
abbrev Mc:=λq l w=>hd Q8 125 3 [(0,(bC q)),(3,(cT l)),(4,(aD w))] []
abbrev Md:=λq l w B z=>hd Q8 125 7 [(0,(bC q)),(3,(cT l)),(4,(aD w)),(5,(FC B)),(6,(aD z))] []
abbrev JD:=λq l w B z D=>hd Q8 125 12 [(0,(bC q)),(3,(cT l)),(4,(aD w)),(5,(FC B)),(6,(aD z)),(7,(aD D))] []
abbrev f98:=λl q=>rn Q20 126 [(cT l),(tF q)]
abbrev Zs:=λl w z q=>hd Q20 126 3 [(0,(cT l)),(1,(tF w)),yq 5,(6,(aD z))] [(5,(dQ q))]
abbrev f373:=λq l=>rn Q27 127 [(ID q),(tF l)]
abbrev Ri:=λl q w=>hd Q27 127 2 [(1,(tF l)),gP 2,(6,(aD q))] [(2,(sL w))]
abbrev f61:=λl q=>rn Q23 128 [(gV l),(gV q)]
abbrev Zm:=λl q w z=>hd Q23 128 3 [(0,(gV l)),(1,(gV q)),yq 5,(6,(aD w))] [(5,(y4 z))]
abbrev f60:=λl=>rn Q23 129 [(gV l)]
abbrev Zl:=λl q=>hd Q23 129 2 [(0,(gV l)),(3,(aD q))] []
abbrev f57:=λl q=>rn Q2 130 [(gV l),(gV q)]
abbrev Zk:=λl q w=>hd Q2 130 4 [(0,(gV l)),(1,(gV q)),(5,(aD w))] []
abbrev f70:=λl=>rn Q8 131 [(bC l)]
abbrev Zp:=λl q=>hd Q8 131 4 [(0,(bC l)),(3,(aD q))] []
abbrev f71:=λl=>rn Q8 132 [(bC l)]
abbrev Zq:=λl q=>hd Q8 132 2 [(0,(bC l)),(3,(aD q))] []
abbrev f72:=λl=>rn Q8 133 [(bC l)]
abbrev UT:=λl q=>hd Q8 133 2 [(0,(bC l)),(3,(aD q))] []
abbrev Zr:=λl q z w=>hd Q8 133 6 [(0,(bC l)),(3,(aD q)),(4,(cT z)),(5,(aD w))] []
abbrev f73:=λl=>rn Q20 134 [(bC l)]
abbrev Mz:=λq l w=>hd Q20 134 3 [(0,(bC q)),yq 3,(4,(pb_ l))] [(3,(dQ w))]
abbrev Gc:=λw l q z B=>hd Q20 134 7 [(0,(bC w)),yq 3,(4,(pb_ l)),(5,(tF q)),(6,(aD z))] [(3,(dQ B))]
abbrev f99:=λq l=>rn Q20 135 [(bC q),(tF l)]
abbrev UU:=λq w l=>hd Q20 135 5 [(0,(bC q)),(5,(.row 15)),(6,(aD w))] [(15,(dQ l))]
abbrev Ox:=λq w k7 l=>hd Q20 135 8 [(0,(bC q)),(5,(.row 15)),(6,(aD w)),(7,(aD k7))] [(15,(dQ l))]
abbrev Hu:=λl w q=>hd Q20 135 14 [(5,(.row 15)),(8,(cT l)),(9,(aD w))] [(15,(dQ q))]
abbrev f37:=λl q=>rn Q2 136 [(cT l),(tF q)]
abbrev Zg:=λq w l=>hd Q2 136 2 [(0,(cT q)),(1,(tF w)),(5,(aD l))] []
abbrev f100:=λl=>rn Q34 137 [(fq l)]
abbrev QM:=λq l w=>hd Q34 137 3 [(0,(fq q)),(4,(.row 6)),(5,(aD l))] [(6,(y4 w))]
abbrev f101:=λq l=>rn Q2 138 [(vL q),(gV l)]
abbrev QN:=λw l q=>hd Q2 138 2 [(0,(vL w)),(1,(gV l)),(5,(aD q))] []
abbrev f102:=λl q=>rn Q2 139 [(gV l),(gV q)]
abbrev f103:=λl q=>rn Q2 140 [(gV l),(aD q)]
abbrev f104:=λl q=>rn Q20 141 [(bC l),(cT q)]
abbrev He:=λq l w z=>hd Q20 141 4 [(0,(bC q)),yq 5,(6,(cT l)),(7,(aD w))] [(5,(dQ z))]
abbrev Hf:=λB q D z l w F=>hd Q20 141 9 [(0,(bC B)),yq 5,(6,(cT q)),(7,(aD D)),(8,(cT z)),(9,(pb_ l)),(10,(aD w))] [(5,(dQ F))]
abbrev f105:=λl=>rn Q8 142 [(gV l)]
abbrev f65:=λl q=>rn Q2 143 [(gV l),(gV q)]
abbrev f538:=λl=>rn Q2 144 [(ki l)]
abbrev Mw:=λl q=>hd Q2 144 6 [gP 1,(3,(aD l))] [(1,(kP q))]
abbrev f426:=λq l=>rn Q26 147 [(fq q),(nP l)]
abbrev Hi:=λF q w z B D l=>hd Q26 147 3 [(0,(fq F)),gP 3,gP 4,gP 5,(13,(fq q)),(14,(aD w)),(15,(aD z))] (tl9 B D l)
abbrev Mf:=λF q w z B D l=>hd Q26 147 8 [(0,(fq F)),gP 4,gP 5,(33,(dP q)),(34,(aD w)),(35,(aD z))] (tl9 B D l)
abbrev JH:=λQ B D F G I K L N O l q w z=>hd Q26 147 12 [(0,(fq Q)),gP 4,gP 5,gP 10,(33,(dP B)),(34,(aD D)),(35,(aD F)),(43,(lJ G)),(44,(aD I)),(45,(aD K))] [(3,(eT L)),(4,(eT N)),(5,(.box 30 [(.row 5080)])),(9,(Ct O)),(10,(.box 60 [(aD l),(.row 5657)])),(5080,(dX q)),(5161,(iW w)),(5657,(iW z))]
abbrev f425:=λl=>rn Q26 148 [(aD l)]
abbrev f438:=λq l w z=>rn Q7 152 [(cB q),(nP l),(fq w),(fq z)]
abbrev f353a:=λq (l:List UInt8)=>rn Q8 153 [(eU q),(.pv (.fn 154 [(.ref [(.str l)])]))]
abbrev f353:=λq (l:List Int)=>rn Q8 153 [(eU q),(.pv (.fn 225 [(.ref [(.dK 1 (List.map (eC .u64) l))])]))]
abbrev JF:=λq (l:List UInt8) w z=>hd Q8 153 2 [(0,(eU q)),(1,(.pv (.fn 154 [(.ref [(.str l)])]))),(7,(aD w)),(8,(aD z))] []
abbrev Ra:=λq (l:List Int) w z=>hd Q8 153 2 [(0,(eU q)),(1,(.pv (.fn 225 [(.ref [(.dK 1 (List.map (eC .u64) l))])]))),(7,(aD w)),(8,(aD z))] []
abbrev f374:=λq (l:List UInt8)=>rn Q2 154 [(Uo q),(.pv (.ref [(.str l)]))]
abbrev f541:=λl=>rn Q3 155 [(cB l),(.pv (.dK 1 (List.map FSt.enc []))),(.pv (.fn 156 []))]
abbrev f551:=λl=>rn Q8 156 [(Up l)]
abbrev E543r (l:List Int) (q:List fL) (w:List dg) (z:List Template):=eD Q8 (dT 10000 (.box 68 [(.ptr 10002 0)]) (dT 10001 (.box 107 [(fq l)]) (dI 10002 (iL 84 [(eU q),(dW w),(cV z),(.row 10003)] 2 Node.enc) (dJ 10003 (iM 9 107 V9 Bh) dZ))))
abbrev R4 (l:List fL) (q:List dg) (w:List Template):=eD Q8 (dT 10000 (.box 68 [(.ptr 10001 0)]) (dI 10001 (iL 84 [(eU l),(dW q),(cV w),(.row 10002)] 2 Node.enc) (dJ 10002 (iM 9 107 V9 Bh) dZ)))
abbrev f543b:=λ(F:List bQ) l q w z B D=>dec (E543r l q w z) (Rn 157 [(.pv (.dK 4 (List.map bQ.iw F))),(.cl 107 [.p 10000, .p 10001])] (Zv l q w z B D))
abbrev f543c:=λ(D:List bQ) l q w z B=>dec (R4 l q w) (Rn 157 [(.pv (.dK 4 (List.map bQ.iw D))),(.cl 103 [.p 10000])] (tl3 l q w z B))
abbrev CQ:=λ(F:List bQ) G I l q w z B D=>hx (E543r l q w z) 157 2 [10000,10001,10002,10003] [(0,(.pv (.dK 4 (List.map bQ.iw F)))),(1,(.cl 107 [.p 10000, .p 10001])),(7,(aD G)),(8,(aD I))] (Zv l q w z B D)
abbrev JO:=λ(D:List bQ) F G l q w z B=>hx (R4 l q w) 157 2 [10000,10001,10002] [(0,(.pv (.dK 4 (List.map bQ.iw D)))),(1,(.cl 103 [.p 10000])),(7,(aD F)),(8,(aD G))] (tl3 l q w z B)
abbrev f542:=λw l z q=>rn Q7 158 [(cB w),(nP l),(fq z),(nP q)]
abbrev f460:=λl=>rn Q25 159 [(fq l)]
abbrev f472:=λB D l q w z=>dec (XB l q) (Rn 160 [(.ptr 10000 0),(aD B),(aD D)] (tl6 l q w z))
abbrev f355:=λq w l=>rn Q17 161 [(cB q),(aD w),(aD l)]
abbrev JG:=λz l q w=>hd Q17 161 2 [(2,(aD z)),(15,(Lx l)),(16,(aD q)),(17,(aD w))] []
abbrev f440:=λw l q=>rn Q7 162 [(cB w),(nP l),(nP q)]
abbrev f430:=λq l=>rn Q26 163 [(fq q),(nP l)]
abbrev Mg:=λB q w z l=>hd Q26 163 3 [(0,(fq B)),gP 3,gP 4,gP 5,(6,(aD q))] (tl9 w z l)
abbrev Mh:=λB q w z l=>hd Q26 163 7 [(0,(fq B)),gP 3,gP 4,gP 5,(7,(aD q))] (tl9 w z l)
abbrev JJ:=λK D F B G I z l q w=>hd Q26 163 12 [(0,(fq K)),gP 3,gP 4,gP 5,(7,(aD D)),gP 8,(9,(lJ F)),(10,(aD B))] [(3,(eT G)),(4,(eT I)),(5,(.box 30 [(.row 5080)])),(8,(.box 60 [(aD z),(.row 5705)])),(5080,(dX l)),(5129,(iW q)),(5705,(iW w))]
abbrev f544:=λl q=>rn Q26 164 [(fq l),(fq q)]
abbrev f354:=λq l=>rn Q17 165 [(cB q),(gV l)]
abbrev Rb:=λl q w=>hd Q17 165 2 [(1,(gV l)),gP 2,(6,(aD q))] [(2,(eL w))]
abbrev f159:=λl=>rn Q2 166 [(Y0 l)]
abbrev f160:=λq l=>rn Q2 167 [(Y0 q),(pb_ l)]
abbrev f573:=λq w l=>dec (Hy) (Rn 168 [(.row 10000),(aD q),(aD w),(.pv (.fn 64 []))] [(10000,(iy l))])
abbrev Ej:=λq w z l=>hx (Hy) 168 1 [10000] [(0,(.row 10000)),(1,(aD q)),(2,(aD w)),(3,(.pv (.fn 64 []))),(8,(aD z))] [(10000,(iy l))]
abbrev My:=λq w z B l=>hx (Hy) 168 4 [10000] [(0,(.row 10000)),(1,(aD q)),(2,(aD w)),(3,(.pv (.fn 64 []))),(8,(aD z)),(9,(aD B))] [(10000,(iy l))]
abbrev E577r:=eD Q15 (dT 10000 (.box 24 [(.row 20003)]) (dT 10001 (.box 24 [(.row 20004)]) (dT 10002 (.box 237 [(.cl 171 [.p 10000, .p 10001, .p 10002])]) (dI 20003 (iR 9 1 jL) (dJ 20004 (iR 9 1 jL) dZ)))))
abbrev f577:=λw l q=>dec (E577r) (Rn 171 [(ki w),(.ptr 10000 0),(.ptr 10001 0),(.ptr 10002 0)] (tl13 l q))
abbrev Ht:=λ(w:List bQ) z B D l q=>hx (E577r) 171 7 [10000,10001,10002,20003,20004] [(3,(.ptr 10002 0)),(24,(.pv (.dK 4 (List.map bQ.iw w)))),(25,(aD z)),(26,(aD B))] ((4,(kP D))::(tl13 l q))
abbrev E80r:=eR Q15 10000 9 1 jL
abbrev f80:=λl=>dec (E80r) (Rn 172 [(.row 10000)] [(10000,(dQ l))])
abbrev abl:=eR Q33 10000 9 1 jL
abbrev f124:=λl=>dec (abl) (Rn 173 [(.row 10000)] [(10000,(dQ l))])
abbrev Hg:=λq l=>hx (abl) 173 4 [10000] [(0,(.row 10000)),(3,(aD q))] [(10000,(dQ l))]
abbrev Az:=λB (q:Nat) (w:Nat) z l=>hx (abl) 173 9 [10000] [(0,(.row 10000)),(3,(aD B)),(4,(.sub 10000 1 q w)),(5,(aD z))] [(10000,(dQ l))]
abbrev f125:=λl q=>rn Q8 174 [(cT l),(tF q)]
abbrev QU:=λl q w z=>hd Q8 174 2 [(0,(cT l)),(1,(tF q)),(7,(aD w)),(8,(aD z))] []
abbrev f372:=λl=>rn Q2 176 [(tF l)]
abbrev f106:=λl q=>rn Q35 177 [(gV l),(aD q)]
abbrev f111:=λq l=>rn Q8 178 [(bC q),(tF l)]
abbrev QS:=λq l w=>hd Q8 178 2 [(0,(bC q)),(1,(tF l)),(5,(aD w))] []
abbrev f112:=λq l=>rn Q2 179 [(ID q),(cT l)]
abbrev QT:=λl q w=>hd Q2 179 2 [(1,(cT l)),gP 2,(5,(aD q))] [(2,(sL w))]
abbrev f137:=λl q=>rn Q20 180 [(bC l),(cT q)]
abbrev L4:=λq z l w=>hd Q20 180 3 [(0,(bC q)),(1,(cT z)),(5,(cT l)),(6,(aD w))] []
abbrev f138:=λq l=>rn Q20 181 [(bC q),(tF l)]
abbrev L5:=λq w l=>hd Q20 181 5 [(0,(bC q)),(5,(.row 16)),(6,(aD w))] [(16,(dQ l))]
abbrev L6:=λq w B z l=>hd Q20 181 9 [(0,(bC q)),(5,(.row 16)),(6,(aD w)),(7,(cT B)),(8,(aD z))] [(16,(dQ l))]
abbrev CM:=λl q w=>hd Q20 181 15 [(5,(.row 16)),(9,(cT l)),(10,(aD q))] [(16,(dQ w))]
abbrev f139:=λl=>rn Q13 182 [(gV l)]
abbrev L7:=λl q w=>hd Q13 182 3 [(0,(gV l)),yq 3,(4,(aD q))] [(3,(eB w))]
abbrev f108:=λl q=>rn Q23 183 [(gV l),(gV q)]
abbrev QO:=λl q w z=>hd Q23 183 3 [(0,(gV l)),(1,(gV q)),yq 5,(6,(aD w))] [(5,(y4 z))]
abbrev f545:=λl=>rn Q2 184 [(aD l)]
abbrev f554:=λl=>rn Q2 185 [(ki l)]
abbrev CR:=λq l w=>hd Q2 185 13 [gP 1,(3,(aD q)),(4,(aD l))] [(1,(kP w))]
abbrev f433:=λw l q=>rn Q7 186 [(cB w),(nP l),(nP q)]
abbrev abm (l:List fL) (q:List dg):=eD Q15 (dT 10000 (.box 257 [(eU l),(dW q),(.row 20001),(.row 20002),(.row 20003)]) (dI 20001 (iR 3 1 (eC .i64)) (dI 20002 (iR 3 1 (eC .i64)) (dJ 20003 (iR 58 1 (nC 2 cD.enc)) dZ))))
abbrev f442:=λD l q w z B=>dec (abm l q) (Rn 191 [(.ptr 10000 0),(dP D)] (Zu l q w z B))
abbrev Mj:=λI D F G l q w z B=>hx (abm l q) 191 2 [10000,20001,20002,20003] [(0,(.ptr 10000 0)),(4,(aD I)),(15,(dP D)),(16,(aD F)),(17,(aD G))] (Zu l q w z B)
abbrev Rr:=λQ D F G I K L N O l q w z B=>hx (abm l q) 191 8 [10000,20001,20002,20003] [(0,(.ptr 10000 0)),(4,(aD Q)),yq 7,(15,(dP D)),(16,(aD F)),(17,(aD G)),(46,(lJ I)),(47,(aD K)),(48,(aD L))] ((6,(Ct N))::(7,(iW O))::(Zu l q w z B))
abbrev E443r (l:List fL) (q:List dg):=eD Q2 (dT 10000 (.box 257 [(eU l),(dW q),(.row 20001),(.row 20002),(.row 20003)]) (dI 20001 (iR 3 1 (eC .i64)) (dI 20002 (iR 3 1 (eC .i64)) (dJ 20003 (iR 58 1 (nC 2 cD.enc)) dZ))))
abbrev f443:=λD F l q w z B=>dec (E443r l q) (Rn 192 [(.ptr 10000 0),(aD D),(aD F)] (Zu l q w z B))
abbrev AB:=λF D l q w z B=>hx (E443r l q) 192 3 [10000,20001,20002,20003] [gP 3,gP 7,(8,(.cl 217 [.p 3, .p 7]))] ((3,(.box 254 [(.ptr 10000 0)]))::(7,(.box 276 [(.row 15)]))::(15,(kW F))::(5112,(kW D))::(Zu l q w z B))
abbrev E444r (l:List fL) (q:List dg):=eD Q26 (dT 10000 (.box 257 [(eU l),(dW q),(.row 20001),(.row 20002),(.row 20003)]) (dI 20001 (iR 3 1 (eC .i64)) (dI 20002 (iR 3 1 (eC .i64)) (dJ 20003 (iR 58 1 (nC 2 cD.enc)) dZ))))
abbrev f444:=λD l q w z B=>dec (E444r l q) (Rn 193 [(.ptr 10000 0),(aD D)] (Zu l q w z B))
abbrev Rs:=λF I K L G D l q w z B=>hx (E444r l q) 193 3 [10000,20001,20002,20003] [(1,(aD F)),gP 2,gP 4,gP 5,(16,(aD I)),(17,(aD K))] ((2,(.box 254 [(.ptr 10000 0)]))::(4,(eT L))::(5,(.box 107 [(.row 14)]))::(14,(eB G))::(5080,(eB D))::(Zu l q w z B))
abbrev f549:=λl=>rn Q30 194 [(cB l)]
abbrev f550:=λl=>rn Q2 195 [(.pv (.dK 1 (List.map FSt.enc []))),(aD l)]
abbrev Xq:=λl q w=>hd Q2 195 2 [(1,(aD l)),(7,(.pv (.dK 1 (List.map FSt.enc [])))),(8,(aD q)),(9,(aD w))] []
abbrev f552:=λq l=>rn Q3 196 [(Up q),(.pv (.dK 1 (List.map FSt.enc []))),(aD l)]
abbrev afg:=λD q w z B l=>hd Q3 196 3 [(2,(aD D)),gP 3,gP 6,gP 8,(12,(.pv (.dK 1 (List.map FSt.enc [])))),(13,(aD q)),(14,(aD w))] [(3,(HQ z)),(6,(eT B)),(8,(.box 30 [(.row 5128)])),(5128,(dX l))]
abbrev t552_3a:=λD q w z B l=>hd Q3 196 3 [(2,(aD D)),gP 3,gP 6,gP 8,(12,(.pv (.dK 1 (List.map FSt.enc [])))),(13,(aD q)),(14,(aD w))] [(3,(HQ z)),(6,(eT B)),(8,(.box 30 [(.row 5128)])),(5128,(dX l))]
abbrev f437:=λl=>rn Q3 197 [(nP l)]
abbrev Rp:=λl q w z B=>hd Q3 197 6 [gP 1,gP 2,(18,(dP l)),(19,(aD q)),(20,(aD w))] [(1,(eT z)),(2,(eT B))]
abbrev f335:=λw l q=>rn Q17 198 [(cB w),(aD l),(aD q)]
abbrev f448:=λl q=>rn Q32 199 [(dP l),(dP q)]
abbrev Mk:=λl q w z=>hd Q32 199 3 [(0,(dP l)),(1,(dP q)),(5,(.row 9)),(6,(aD w))] [(9,(dX z))]
abbrev Rt:=λz B D F w G l q=>hd Q32 199 7 [(0,(dP z)),(1,(dP B)),(5,(.row 9)),(6,(aD D)),gP 7,(8,(aD F))] [(7,(.box 60 [(aD w),(.row 5369)])),(9,(dX G)),(5113,(iW l)),(5369,(iW q))]
abbrev f451:=λq l=>rn Q13 200 [(dP q),(fq l)]
abbrev Mm:=λz D w B l q=>hd Q13 200 5 [(0,(dP z)),(1,(fq D)),(5,(.row 20)),(6,(.row 23)),yq 7,(8,(aD w))] [(7,(kW B)),(20,(eB l)),(23,(oB q))]
abbrev ue:=λw z l q=>hd Q13 200 11 [(5,(.row 20)),(6,(.row 23)),yq 7,(9,(aD w))] [(7,(kW z)),(20,(eB l)),(23,(oB q))]
abbrev AD:=λD q l w F z B=>hd Q13 200 17 [(5,(.row 20)),(6,(.row 23)),yq 7,(9,(aD D)),(10,(aD q)),(11,(aD l)),(12,(aD w))] [(7,(kW F)),(20,(eB z)),(23,(oB B))]
abbrev FZ:=λF q l z G B D w=>hd Q13 200 23 [(5,(.row 20)),(6,(.row 23)),yq 7,(9,(aD F)),(10,(aD q)),(11,(aD l)),(13,(.row 112)),(14,(aD z))] [(7,(kW G)),(20,(eB B)),(23,(oB D)),(112,(iW w))]
abbrev f450:=λl q w=>rn Q13 201 [(fq l),(aD q),(aD w)]
abbrev Ml:=λq l w o29=>hd Q13 201 5 [(7,(aD q)),(8,(aD l)),(9,(.row 29)),(10,(aD w))] [(29,(eB o29))]
abbrev f449:=λl=>rn Q25 202 [(aD l)]
abbrev Ru:=λq l w=>hd Q25 202 3 [(0,(aD q)),yq 3,(4,(aD l))] [(3,(eB w))]
abbrev f452:=λq w l=>rn Q22 203 [(cB q),(dP w),(fq l)]
abbrev Cf:=λw B q z l=>hd Q22 203 3 [(1,(dP w)),(2,(fq B)),gP 3,(8,(.row 15)),(9,(aD q))] [(3,(eL z)),(15,(eB l))]
abbrev F1:=λw z l q=>hd Q22 203 10 [(1,(dP w)),(2,(fq z)),(8,(.row 15)),(12,(aD l))] [(15,(eB q))]
abbrev f453:=λz w l q=>rn Q26 204 [(dP z),(fq w),(fq l),(aD q)]
abbrev F2:=λD G q z B F w l=>hd Q26 204 3 [(0,(dP D)),(1,(fq G)),(2,(fq q)),(3,(aD z)),gP 8,gP 9,(10,(aD B))] (tl10 F w l)
abbrev CN:=λB F w z D q l=>hd Q26 204 7 [(0,(dP B)),(1,(fq F)),(3,(aD w)),gP 8,gP 9,(11,(aD z))] (tl10 D q l)
abbrev Cg:=λF I w B z D G q l=>hd Q26 204 11 [(0,(dP F)),(1,(fq I)),(3,(aD w)),gP 8,gP 9,(11,(aD B)),(12,(aD z)),(13,(aD D))] (tl10 G q l)
abbrev f553:=λw (q:List Node) (l:List (Option (List cD)))=>dec (IY) (Rn 205 [(.ag [.r 9000]),(fq w)] [(9000,(.rn 60 2 1 57 2 (List.map (kX Node.enc 1) q) (qE cD.enc l)))])
abbrev AH:=λD z w B (q:List Node) (l:List (Option (List cD)))=>hx (IY) 205 3 [] [(1,(fq D)),gP 2,gP 4,(6,(aD z)),(7,(aD w))] [(2,(.box 30 [(.row 9000)])),(4,(eT B)),(9000,(.rn 60 2 1 57 2 (List.map (kX Node.enc 1) q) (qE cD.enc l)))]
abbrev f166:=λl=>rn Q2 206 [(Y0 l)]
abbrev f167:=λl=>rn Q2 207 [(Y0 l)]
abbrev E486r (l:List fL) (q:List dg):=eD Q2 (dT 10000 (.box 254 [(.ptr 10002 0)]) (dT 10001 (.box 276 [(.row 20003)]) (dT 10002 (.box 257 [(eU l),(dW q),(.row 20004),(.row 20005),(.row 20006)]) (dI 20003 (iR 275 2 dN.enc) (dI 20004 (iR 3 1 (eC .i64)) (dI 20005 (iR 3 1 (eC .i64)) (dJ 20006 (iR 58 1 (nC 2 cD.enc)) dZ)))))))
abbrev f486:=λF G l q w z B D=>dec (E486r l q) (Rn 217 [(aD F),(aD G),(.ptr 10000 0),(.ptr 10001 0)] (tl8 l q w z B D))
abbrev oD:=λI K G F l q w z B D=>hx (E486r l q) 217 8 [10000,10001,10002,20003,20004,20005,20006] [(0,(aD I)),(2,(.ptr 10000 0)),(3,(.ptr 10001 0)),(9,(lJ K)),(10,(lJ G)),yq 11] ((11,(iW F))::(tl8 l q w z B D))
abbrev E485r (l:List fL) (q:List dg):=eD Q8 (dT 10000 (.box 257 [(eU l),(dW q),(.row 20001),(.row 20002),(.row 20003)]) (dI 20001 (iR 3 1 (eC .i64)) (dI 20002 (iR 3 1 (eC .i64)) (dJ 20003 (iR 58 1 (nC 2 cD.enc)) dZ))))
abbrev f485:=λD l q w z B=>dec (E485r l q) (Rn 218 [(.ptr 10000 0),(aD D)] (Zu l q w z B))
abbrev Mq:=λD l q w z B=>hx (E485r l q) 218 1 [10000,20001,20002,20003] [(0,(.ptr 10000 0)),(1,(aD D))] (Zu l q w z B)
abbrev E487r (l:List fL) (q:List dg):=eD Q8 (dT 10000 (.box 254 [(.ptr 10004 0)]) (dT 10001 (.box 107 [(.row 20005)]) (dT 10002 (.box 30 [(.row 20006)]) (dT 10003 (.box 277 [(.cl 219 [.p 10000, .p 10001, .p 10002, .p 10003])]) (dT 10004 (.box 257 [(eU l),(dW q),(.row 20007),(.row 20008),(.row 20009)]) (dI 20005 (iR 3 1 (eC .i64)) (dI 20006 (iR 60 2 Node.enc) (dI 20007 (iR 3 1 (eC .i64)) (dI 20008 (iR 3 1 (eC .i64)) (dJ 20009 (iR 58 1 (nC 2 cD.enc)) dZ))))))))))
abbrev f487:=λG l q w z B D F=>dec (E487r l q) (Rn 219 [(aD G),(.ptr 10000 0),(.ptr 10001 0),(.ptr 10002 0),(.ptr 10003 0)] (tl5 l q w z B D F))
abbrev Ry:=λN G I K L l q w z B D F=>hx (E487r l q) 219 9 [10000,10001,10002,10003,10004,20005,20006,20007,20008,20009] [(3,(.ptr 10002 0)),(4,(.ptr 10003 0)),(7,(aD N)),yq 8,(49,(lJ G)),(50,(aD I)),(51,(aD K))] ((8,(iW L))::(tl5 l q w z B D F))
abbrev f339:=λw l q=>rn Q2 220 [(cB w),(aD l),(aD q)]
abbrev f559:=λq l=>dec (R7) (Rn 221 [(.row 20000),(dP q)] [(20000,(dX l))])
abbrev f456:=λq l=>rn Q8 222 [(pg_Node q),(aD l)]
abbrev Mo:=λl w z B D q=>hd Q8 222 5 [(1,(aD l)),(5,(.row 11)),(13,(lJ w)),(14,(aD z)),(15,(aD B))] [(2,(Ct D)),(11,(T3 q))]
abbrev f457:=λq l=>rn Q26 223 [(nP q),(aD l)]
abbrev Mp:=λD F G I z B l q w=>hd Q26 223 8 [gP 2,gP 4,gP 5,gP 8,(22,(.row 5096)),(23,(aD D)),(24,(aD F))] [(2,(eT G)),(4,(eT I)),(5,(.box 312 [(.row 13)])),(6,(.box 107 [(.row 5096)])),(8,(.box 30 [(.row 20)])),(13,(xI z)),(20,(dX B)),(5096,(eB l)),(5128,(dX q)),(5336,(dX w))]
abbrev F4:=λN z G I K L O Q B D F l q w=>hd Q26 223 12 [gP 2,gP 4,gP 5,gP 8,(9,(aD N)),(10,(aD z)),(11,(.row 36)),(22,(.row 5096)),(23,(aD G)),(24,(aD I)),(38,(aD K)),(39,(aD L))] [(2,(eT O)),(4,(eT Q)),(5,(.box 312 [(.row 13)])),(6,(.box 107 [(.row 5096)])),(8,(.box 30 [(.row 20)])),(13,(xI B)),(20,(dX D)),(36,(iW F)),(5096,(eB l)),(5128,(dX q)),(5336,(dX w))]
abbrev f29:=λl q=>rn Q23 224 [(gV l),(gV q)]
abbrev UQ:=λz B q w l=>hd Q23 224 3 [(0,(gV z)),(1,(gV B)),(5,(.row 12)),(14,(aD q)),(15,(aD w))] [(12,(y4 l))]
abbrev f371:=λq (l:List Int)=>rn Q2 225 [(Uo q),(.pv (.ref [(.dK 1 (List.map (eC .u64) l))]))]
abbrev f31:=λl q=>rn Q2 226 [(gV l),(gV q)]
abbrev f491:=λq l=>rn Q17 227 [(lJ q),(aD l)]
abbrev Rz:=λw l q=>hd Q17 227 2 [(0,(lJ w)),(1,(aD l)),(6,(aD q))] []
abbrev f476:=λq w l=>rn Q17 228 [(nP q),(aD w),(aD l)]
abbrev Rx:=λl w q=>hd Q17 228 3 [(2,(aD l)),(8,(lJ w)),(9,(aD q))] []
abbrev f436:=λq l=>rn Q26 229 [(nP q),(aD l)]
abbrev Ro:=λB D F G l q w z=>hd Q26 229 3 [(1,(aD B)),gP 2,gP 4,(5,(.ptr 14 0)),(6,(aD D))] [(2,(eT F)),(4,(eT G)),(14,(.box 321 [(dP l),(.row 5209),(.row 5210)])),(5208,(dX q)),(5209,(eB w)),(5210,(eB z))]
abbrev Hj:=λD F G l q w z B=>hd Q26 229 9 [gP 2,gP 4,(5,(.ptr 14 0)),gP 7,(8,(aD D))] [(2,(eT F)),(4,(eT G)),(7,(.box 30 [(.row 5112)])),(14,(.box 321 [(dP l),(.row 5209),(.row 5210)])),(5112,(dX q)),(5208,(dX w)),(5209,(eB z)),(5210,(eB B))]
abbrev FY:=λG D I K L l F q w z B=>hd Q26 229 14 [gP 2,gP 4,(5,(.ptr 14 0)),gP 7,(8,(aD G)),gP 9,(10,(.row 56)),(11,(aD D))] [(2,(eT I)),(4,(eT K)),(7,(.box 30 [(.row 5112)])),(9,(Ct L)),(14,(.box 321 [(dP l),(.row 5209),(.row 5210)])),(56,(iW F)),(5112,(dX q)),(5208,(dX w)),(5209,(eB z)),(5210,(eB B))]
abbrev f63:=λl q=>rn Q2 261 [(gV l),(gV q)]
abbrev Zn:=λl q w z=>hd Q2 261 2 [(1,(gV l)),(7,(gV q)),(8,(aD w)),(9,(aD z))] []
abbrev E488r (l:FSt):=eD Q15 (dT 10000 (.box 107 [(.row 20004)]) (dT 10001 (.box 312 [(.row 10005)]) (dT 10002 (eT l) (dT 10003 (.box 313 [(.cl 262 [.p 10000, .p 10001, .p 10002, .p 10003])]) (dI 20004 (iR 3 1 (eC .i64)) (dJ 10005 (iM 3 3 V3 V3) dZ))))))
abbrev f488:=λz l w q=>dec (E488r l) (Rn 262 [(aD z),(.ptr 10000 0),(.ptr 10001 0),(.ptr 10002 0),(.ptr 10003 0)] [(10000,(.box 107 [(.row 20004)])),(10001,(.box 312 [(.row 10005)])),(10002,(eT l)),(10003,(.box 313 [(.cl 262 [.p 10000, .p 10001, .p 10002, .p 10003])])),(20004,(eB w)),(10005,(xI q))])
abbrev Mr:=λz B o25 l q w=>hx (E488r l) 262 3 [10000,10001,10002,10003,20004,10005] [(2,(.ptr 10001 0)),(4,(.ptr 10003 0)),yq 25,(26,(aD z)),(27,(aD B))] [(25,(iW o25)),(10000,(.box 107 [(.row 20004)])),(10001,(.box 312 [(.row 10005)])),(10002,(eT l)),(10003,(.box 313 [(.cl 262 [.p 10000, .p 10001, .p 10002, .p 10003])])),(10005,(xI q)),(20004,(eB w))]
abbrev f490:=λ(l:List cD)=>rn Q37 263 [(.pv (.fn 305 [(.ref [(.dK 2 (List.map cD.enc l))])])),(.pv (.fn 265 []))]
abbrev f489:=λl=>rn Q36 264 [(lJ l)]
abbrev f68:=λl=>rn Q23 266 [(gV l)]
abbrev Zo:=λl q=>hd Q23 266 2 [(0,(gV l)),(3,(aD q))] []
abbrev E455r (l:List Node):=eD Q15 (dT 10000 (.box 321 [(dP l),(.row 20001),(.row 20002)]) (dI 20001 (iR 3 1 (eC .i64)) (dJ 20002 (iR 3 1 (eC .i64)) dZ)))
abbrev f455:=λz l q w=>dec (E455r l) (Rn 267 [(.ptr 10000 0),(aD z)] [(10000,(.box 321 [(dP l),(.row 20001),(.row 20002)])),(20001,(eB q)),(20002,(eB w))])
abbrev Mn:=λB z l q w=>hx (E455r l) 267 4 [10000,20001,20002] [(0,(.ptr 10000 0)),(4,(lJ B)),(5,(aD z))] [(10000,(.box 321 [(dP l),(.row 20001),(.row 20002)])),(20001,(eB q)),(20002,(eB w))]
abbrev f463:=λl=>rn Q37 268 [(lJ l)]
abbrev AE:=λq l w=>hd Q37 268 3 [(0,(lJ q)),yq 3,(4,(aD l))] [(3,(iW w))]
abbrev JL:=λq l z w=>hd Q37 268 6 [(0,(lJ q)),yq 3,(4,(aD l)),(5,(aD z))] [(3,(iW w))]
abbrev f107:=λl q=>rn Q35 302 [(gV l),(aD q)]
end
