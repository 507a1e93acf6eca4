/- The functions and loops as plain ones, by program (decomp8.p. -/
import Derived.Test.YthphfjcnkinkpaaGreatDoorClT
set_option linter.all false
set_option maxRecDepth 100000
namespace Go.Proofs.YthphfjcnkinkpaaGreatDoor.cl
noncomputable section
open Go Go.AM
abbrev f567:=λl=>rn Q2 4 [(Yi l)]
abbrev f403:=λl=>rn Q0 5 [(bH l)]
abbrev f498:=λq l=>rn Q1 6 [(bN q),(Yi l)]
abbrev f516:=λl=>rn Q2 8 [(bN l)]
abbrev f499:=rn Q2 9 []
abbrev f500:=λq w l=>rn Q3 10 [(bN q),(cU w),(jZ l)]
abbrev f529:=λl=>rn Q3 11 [(bN l),(.pv (.dG 1 (List.map FSt.enc [])))]
abbrev f430:=λq l=>rn Q9 13 [(eU q),(gq l)]
abbrev Lo:=λB q w z l=>hd Q9 13 3 [(0,(eU B)),fQ 3,fQ 4,fQ 5,(6,(aD q))] (tl8 w z l)
abbrev Lp:=λB q w z l=>hd Q9 13 7 [(0,(eU B)),fQ 3,fQ 4,fQ 5,(7,(aD q))] (tl8 w z l)
abbrev I3:=λK D F B G I z l q w=>hd Q9 13 12 [(0,(eU K)),fQ 3,fQ 4,fQ 5,(7,(aD D)),fQ 8,(9,(gj F)),(10,(aD B))] [(3,(cN G)),(4,(cN I)),(5,(.box 30 [(.row 5080)])),(8,(.box 71 [(aD z),(.row 5705)])),(5080,(dR l)),(5129,(iO q)),(5705,(iO w))]
abbrev f434:=λq l=>rn Q10 15 [(bN q),(gq l)]
abbrev Qz:=λF G I K L N l q w z B D=>hd Q10 15 3 [fQ 3,fQ 4,(6,(.ptr 14 0)),(16,(c4 F)),(17,(aD G)),(18,(aD I))] (tl11 K L N l q w z B D)
abbrev B7:=λF G I K l q w z B D=>hd Q10 15 9 [fQ 3,fQ 4,(6,(.ptr 14 0)),(9,(aD F))] (tl11 G I K l q w z B D)
abbrev Fu:=λK L N O l q I w z B D F G=>hd Q10 15 15 [fQ 4,(6,(.ptr 14 0)),fQ 10,(72,(aD K)),(73,(aD L))] [(2,(cr N)),(4,(cN O)),(10,(.box 30 [(.row 68)])),(14,(.box 94 [(eW l),(er q),(.row 5210),(.row 5211)])),(68,(dR I)),(5160,(dR w)),(5208,(x8 z)),(5209,(qL B)),(5210,(dw D)),(5211,(dw F)),(6104,(dR G))]
abbrev f407:=λl q=>rn Q2 16 [(gq l),(gq q)]
abbrev f410:=λq l=>rn Q4 17 [(bN q),(gq l)]
abbrev Lm:=λl q w z=>hd Q4 17 5 [fQ 2,fQ 3,fQ 5,(7,(aD l))] [(2,(cr q)),(3,(cN w)),(5,(cN z))]
abbrev IY:=λl q w z B D=>hd Q4 17 11 [fQ 2,fQ 3,fQ 5,(7,(aD l)),fQ 8,(9,(aD q))] [(2,(cr w)),(3,(cN z)),(5,(cN B)),(8,(qf D))]
abbrev f411:=λq l=>rn Q4 18 [(bN q),(gq l)]
abbrev Qo:=λl q w z B=>hd Q4 18 5 [fQ 2,fQ 3,(19,(c4 l)),(20,(aD q)),(21,(aD w))] [(2,(cr z)),(3,(cN B))]
abbrev Qq:=λl q w z B D F G I=>hd Q4 18 8 [fQ 2,fQ 3,fQ 7,(19,(c4 l)),(20,(aD q)),(21,(aD w)),(26,(gj z)),(27,(aD B)),(28,(aD D))] [(2,(cr F)),(3,(cN G)),(7,(qf I))]
abbrev f569:=λw z q l=>rn Q2 19 [(bN w),(cU z),(gq q),(jZ l)]
abbrev f408:=λq l=>rn Q2 20 [(bN q),(gq l)]
abbrev f417:=λq l=>rn Q4 21 [(bN q),(gq l)]
abbrev Qt:=λl q w=>hd Q4 21 5 [fQ 2,fQ 3,(6,(aD l))] [(2,(cr q)),(3,(cN w))]
abbrev Qu:=λl w q z B=>hd Q4 21 9 [fQ 2,fQ 3,(6,(aD l)),(7,(gj w)),(8,(aD q))] [(2,(cr z)),(3,(cN B))]
abbrev f412:=λw l q=>rn Q2 22 [(bN w),(gq l),(gq q)]
abbrev f332:=λl=>rn Q5 23 [(bH l)]
abbrev Qd:=λw F B z D l q=>hd Q5 23 7 [(0,(bH w)),fQ 2,(4,(Pu F)),(6,(gW B)),fQ 8,(9,(aD z))] [(2,(cr D)),(8,(.box 36 [(.row 5128),(.row 5129)])),(5128,(x8 l)),(5129,(qL q))]
abbrev f327:=rn Q6 24 []
abbrev f502:=λl=>rn Q2 25 [(oM l)]
abbrev QT:=λq l=>hd Q2 25 4 [(0,(oM q)),(3,(aD l))] []
abbrev f503:=λl=>rn Q2 26 [(jZ l)]
abbrev f504:=λl q=>rn Q7 27 [(bN l),(oM q)]
abbrev LG:=λl q w=>hd Q7 27 5 [(1,(oM l)),fQ 2,yU 7] [(2,(cr q)),(7,(gm w))]
abbrev FB:=λq l=>hd Q7 27 11 [yU 7,yU 10] [(7,(gm q)),(10,(gm l))]
abbrev Ai:=λl q z w=>hd Q7 27 14 [yU 7,yU 10,(11,(aD l)),(12,(aD q))] [(7,(gm z)),(10,(gm w))]
abbrev f364:=λq l=>rn Q4 28 [(bN q),(uo l)]
abbrev Ql:=λl q w=>hd Q4 28 2 [(1,(uo l)),fQ 2,(5,(aD q))] [(2,(cr w))]
abbrev f365:=λq l=>rn Q4 29 [(bN q),(uo l)]
abbrev Qm:=λl q w=>hd Q4 29 2 [(1,(uo l)),fQ 2,(5,(aD q))] [(2,(cr w))]
abbrev f340:=λw l q=>rn Q2 30 [(bN w),(aD l),(aD q)]
abbrev f414:=λl=>dec (DX) (Rn 33 [(aD l)] [])
abbrev f505:=λl q=>dec (RB) (Rn 34 [(bN l),(cU q)] [])
abbrev E506r (l:List fM) (q:List cW) (w:List Template):=eD Q3 (dI 10000 (iL 141 [(eW l),(er q),(cU w),(.row 10001)] 2 Node.enc) (dJ 10001 (iM 9 51 V9 Uy) dZ))
abbrev abl:=λD l q w z B=>dec (E506r l q w) (Rn 35 [(.ptr 10000 0),(jZ D)] (tl0 l q w z B))
abbrev f541:=λl=>rn Q3 36 [(bN l),(.pv (.dG 1 (List.map FSt.enc []))),(.pv (.fn 37 []))]
abbrev f551:=λl=>rn Q4 37 [(TG l)]
abbrev f549:=λl=>rn Q8 38 [(bN l)]
abbrev f550:=λl=>rn Q2 39 [(.pv (.dG 1 (List.map FSt.enc []))),(aD l)]
abbrev WS:=λl q w=>hd Q2 39 2 [(1,(aD l)),(7,(.pv (.dG 1 (List.map FSt.enc [])))),(8,(aD q)),(9,(aD w))] []
abbrev f552:=λq l=>rn Q3 40 [(TG q),(.pv (.dG 1 (List.map FSt.enc []))),(aD l)]
abbrev aea:=λD q w z B l=>hd Q3 40 3 [(2,(aD D)),fQ 3,fQ 6,fQ 8,(12,(.pv (.dG 1 (List.map FSt.enc [])))),(13,(aD q)),(14,(aD w))] (tl7 z B l)
abbrev t552_3a:=λD q w z B l=>hd Q3 40 3 [(2,(aD D)),fQ 3,fQ 6,fQ 8,(12,(.pv (.dG 1 (List.map FSt.enc [])))),(13,(aD q)),(14,(aD w))] (tl7 z B l)
abbrev f559:=λq l=>dec (LZ) (Rn 41 [(.row 20000),(c4 q)] [(20000,(dR l))])
abbrev f437:=λl=>rn Q3 42 [(gq l)]
abbrev QC:=λl q w z B=>hd Q3 42 6 [fQ 1,fQ 2,(18,(c4 l)),(19,(aD q)),(20,(aD w))] [(1,(cN z)),(2,(cN B))]
abbrev W6 (l:List fM) (q:List cW):=eD Q2 (dT 10000 (.box 94 [(eW l),(er q),(.row 20001),(.row 20002)]) (dI 20001 (iR 3 1 (dW .i64)) (dJ 20002 (iR 3 1 (dW .i64)) dZ)))
abbrev f461:=λB D l q w z=>dec (W6 l q) (Rn 43 [(.ptr 10000 0),(gq B),(aD D)] (tl5 l q w z))
abbrev DR:=λG B D F I l q w z=>hx (W6 l q) 43 2 [10000,20001,20002] [(0,(.ptr 10000 0)),(2,(aD G)),fQ 4,(18,(gj B)),(19,(aD D)),(20,(aD F))] ((4,(cN I))::(tl5 l q w z))
abbrev CC:=λG B D F l q w z=>hx (W6 l q) 43 8 [10000,20001,20002] [(0,(.ptr 10000 0)),(2,(aD G)),(44,(gj B)),(45,(aD D)),(46,(aD F))] (tl5 l q w z)
abbrev f462:=λl=>rn Q24 44 [(c4 l)]
abbrev f418:=λl q=>rn Q4 45 [(gq l),(gq q)]
abbrev Qv:=λq w l=>hd Q4 45 4 [(5,(eU q)),(6,(eU w)),(7,(aD l))] []
abbrev f421:=λl=>rn Q3 46 [(gq l)]
abbrev f422:=λq l=>rn Q4 47 [(bN q),(gq l)]
abbrev Qw:=λl q w z B D=>hd Q4 47 5 [fQ 2,fQ 3,fQ 5,(20,(c4 l)),(21,(aD q)),(22,(aD w))] [(2,(cr z)),(3,(cN B)),(5,(cN D))]
abbrev IZ:=λl q w z B D F G I K=>hd Q4 47 10 [fQ 2,fQ 3,fQ 5,(20,(c4 l)),(21,(aD q)),(22,(aD w)),(33,(gj z)),(34,(aD B)),(35,(aD D))] [(2,(cr F)),(3,(cN G)),(5,(cN I)),(8,(qf K))]
abbrev f355:=λq w l=>rn Q20 48 [(bN q),(aD w),(aD l)]
abbrev IX:=λz l q w=>hd Q20 48 2 [(2,(aD z)),(15,(KJ l)),(16,(aD q)),(17,(aD w))] []
abbrev f339:=λw l q=>rn Q2 49 [(bN w),(aD l),(aD q)]
abbrev f571:=λz D w B q l=>dec (AQ) (Rn 50 [(bN z),(cU D),(gq w),(aD B),(jZ q),(.row 20000)] [(20000,(pN l))])
abbrev FG:=λz q w l=>hx (AQ) 50 10 [20000] [(3,(aD z)),(5,(.row 20000)),fQ 10,(16,(aD q))] [(10,(kT w)),(20000,(pN l))]
abbrev f413:=λl=>rn Q2 51 [(gq l)]
abbrev Qr:=λl q=>hd Q2 51 4 [fQ 1,(3,(aD l))] [(1,(cN q))]
abbrev f356:=λq w l=>rn Q20 52 [(bN q),(aD w),(aD l)]
abbrev Qi:=λl w q=>hd Q20 52 3 [(2,(aD l)),(8,(KJ w)),(9,(aD q))] []
abbrev f423:=λw l q=>rn Q11 53 [(bN w),(gq l),(gq q)]
abbrev Qx:=λq w z B D l=>hd Q11 53 3 [fQ 3,fQ 4,fQ 5,(8,(.row 20)),(22,(aD q)),(23,(aD w))] [(3,(cr z)),(4,(cN B)),(5,(cN D)),(20,(dw l))]
abbrev Ft:=λl w z B D F G q=>hd Q11 53 10 [fQ 3,fQ 5,(8,(.row 20)),(10,(UB l)),(33,(c4 w)),(34,(aD z)),(35,(aD B))] [(3,(cr D)),(4,(cN F)),(5,(cN G)),(20,(dw q))]
abbrev vr:=λl q B D F G I K L N O w z=>hd Q11 53 16 [fQ 3,fQ 5,(8,(.row 20)),(10,(UB l)),(13,(aD q)),(33,(c4 B)),(34,(aD D)),(35,(aD F)),(60,(gj G)),(61,(aD I)),(62,(aD K))] [(3,(cr L)),(4,(cN N)),(5,(cN O)),(12,(qf w)),(20,(dw z))]
abbrev f323:=λl=>rn Q12 54 [(bH l)]
abbrev Ld:=λl w q B z=>hd Q12 54 8 [(0,(bH l)),(5,(gW w)),(7,(c9 q)),yU 8,(9,(aD B))] [(8,(yI z))]
abbrev Fs:=λw B z F l D q=>hd Q12 54 12 [(0,(bH w)),(5,(gW B)),(7,(c9 z)),yU 8,(9,(aD F)),yU 10,(11,(aD l))] [(8,(yI D)),(10,(K1 q))]
abbrev f15:=λl=>rn Q13 55 [(bH l)]
abbrev Yv:=λq l w z=>hd Q13 55 7 [(0,(bH q)),(5,(c9 l)),yU 6,(7,(aD w))] [(6,(B1 z))]
abbrev DQ:=λB q l D w z=>hd Q13 55 15 [(0,(bH B)),(5,(c9 q)),(6,(vp l)),(8,(vp D)),(9,(gW w)),(10,(aD z))] []
abbrev Qb:=λF q l G w z D B=>hd Q13 55 19 [(0,(bH F)),(5,(c9 q)),(6,(vp l)),(8,(vp G)),(9,(gW w)),(10,(aD z)),fQ 11,(12,(aD D))] [(11,(RQ B))]
abbrev f28:=λq l=>rn Q16 56 [(gW q),(aD l)]
abbrev HN:=λw l q z=>hd Q16 56 3 [(0,(gW w)),(1,(aD l)),yU 5,(6,(aD q))] [(5,(dw z))]
abbrev HO:=λz q w l B D=>hd Q16 56 8 [(0,(gW z)),(1,(aD q)),yU 5,(6,(aD w)),(7,(UB l)),(8,(aD B))] [(5,(dw D))]
abbrev f320:=λl=>rn Q17 57 [(bH l)]
abbrev Qc:=λl z q w B=>hd Q17 57 8 [(0,(bH l)),(5,(gW z)),(7,(c9 q)),yU 8,(9,(aD w))] [(8,(qL B))]
abbrev f351:=λw q l=>rn Q14 58 [(uo w),(uo q),(c9 l)]
abbrev Qf:=λl G I D F q w z B=>hd Q14 58 5 [(2,(c9 l)),fQ 6,fQ 7,(8,(aD G))] [(6,(r9 I)),(7,(.box 124 [(uo D),(.row 14),(.row 5162)])),(14,(gu F)),(5113,(gu q)),(5114,(qo w)),(5161,(gu z)),(5162,(qo B))]
abbrev IV:=λl F G D q w z B=>hd Q14 58 5 [(2,(c9 l)),fQ 6,fQ 7,(8,(aD F))] [(6,(r9 G)),(7,(.box 124 [(uo D),(.row 5161),(.row 5162)])),(5113,(gu q)),(5114,(qo w)),(5161,(gu z)),(5162,(qo B))]
abbrev f523:=λl=>rn Q2 59 [(Pt l)]
abbrev QZ:=λl q=>hd Q2 59 4 [fQ 1,(3,(aD l))] [(1,(Ej q))]
abbrev f509:=λq l=>rn Q2 60 [(jZ q),(aD l)]
abbrev f510:=λl=>rn Q4 61 [(jZ l)]
abbrev f511:=λl=>rn Q2 62 [(jZ l)]
abbrev QU:=λl q=>hd Q2 62 4 [fQ 1,(3,(aD l))] [(1,(kT q))]
abbrev f512:=λl=>rn Q4 63 [(oM l)]
abbrev QV:=λq l=>hd Q4 63 2 [(0,(oM q)),(3,(aD l))] []
abbrev LH:=λq l=>hd Q4 63 7 [(0,(oM q)),(4,(aD l))] []
abbrev I6:=λw l z q=>hd Q4 63 11 [(0,(oM w)),(4,(aD l)),(5,(c9 z)),(6,(aD q))] []
abbrev I7:=λl q=>hd Q4 63 16 [(0,(oM l)),yU 7] [(7,(gm q))]
abbrev f527:=λq w l=>dec (A3) (Rn 64 [(bN q),(.row 10000),(Pt w)] [(10000,(gm l))])
abbrev LI:=λG I K L N q w z B D F l=>hx (A3) 64 6 [10000] [(1,(.row 10000)),fQ 3,fQ 5,fQ 6,fQ 10,(11,(aD G))] ((3,(cr I))::(5,(Ej K))::(tl12 L N q w z B D F l))
abbrev FF:=λI G K L q w z B D F l=>hx (A3) 64 14 [10000] [(1,(.row 10000)),fQ 6,fQ 10,(14,(c9 I)),(15,(aD G))] (tl12 K L q w z B D F l)
abbrev f526:=λq l=>rn Q4 65 [(cU q),(oM l)]
abbrev sQ:=λz w l q=>hd Q4 65 3 [(0,(cU z)),(1,(oM w)),(5,(aD l)),(6,(aD q))] []
abbrev f515:=λq l=>rn Q4 66 [(cU q),(uo l)]
abbrev QW:=λw l q=>hd Q4 66 2 [(0,(cU w)),(1,(uo l)),(5,(aD q))] []
abbrev f65:=λl q=>rn Q2 67 [(gT l),(gT q)]
abbrev E528r (l:List fM) (q:List cW) (w:List Template):=eD Q20 (dI 10000 (iL 141 [(eW l),(er q),(cU w),(.row 10001)] 2 Node.enc) (dJ 10001 (iM 9 51 V9 Uy) dZ))
abbrev Sl:=λD l q w z B=>dec (E528r l q w) (Rn 70 [(.ptr 10000 0),(uo D)] (tl0 l q w z B))
abbrev MD (l:List fM) (q:List cW) (w:List Template):=eD Q2 (dI 10000 (iL 141 [(eW l),(er q),(cU w),(.row 10001)] 2 Node.enc) (dJ 10001 (iM 9 51 V9 Uy) dZ))
abbrev MS:=λD l q w z B=>dec (MD l q w) (Rn 74 [(.ptr 10000 0),(jZ D)] (tl0 l q w z B))
abbrev mC:=λD F G I l q w z B=>hx (MD l q w) 74 14 [10000,10001] [fQ 2,fQ 3,(48,(c9 D)),(49,(aD F)),(50,(aD G))] ((2,(.box 78 [(.ptr 10000 0)]))::(3,(kT I))::(tl0 l q w z B))
abbrev oK:=λD F l q w z B=>dec (MD l q w) (Rn 75 [(.ptr 10000 0),(jZ D),(eU F)] (tl0 l q w z B))
abbrev f352:=λq l=>rn Q4 76 [(bN q),(uo l)]
abbrev f363:=λq l=>rn Q4 77 [(bN q),(uo l)]
abbrev Qk:=λl z B q w=>hd Q4 77 2 [(1,(uo l)),(8,(er z)),(9,(aD B)),(10,(aD q))] [(2,(cr w))]
abbrev f456:=λq l=>rn Q4 78 [(IM q),(aD l)]
abbrev LA:=λl w z B D q=>hd Q4 78 5 [(1,(aD l)),(5,(.row 11)),(13,(gj w)),(14,(aD z)),(15,(aD B))] [(2,(qf D)),(11,(Tm q))]
abbrev f457:=λq l=>rn Q9 79 [(gq q),(aD l)]
abbrev LB:=λD F G I z B l q w=>hd Q9 79 8 [fQ 2,fQ 4,fQ 5,fQ 8,(22,(.row 5096)),(23,(aD D)),(24,(aD F))] [(2,(cN G)),(4,(cN I)),(5,(.box 213 [(.row 13)])),(6,(.box 51 [(.row 5096)])),(8,(.box 30 [(.row 20)])),(13,(xg z)),(20,(dR B)),(5096,(dw l)),(5128,(dR q)),(5336,(dR w))]
abbrev FA:=λN z G I K L O Q B D F l q w=>hd Q9 79 12 [fQ 2,fQ 4,fQ 5,fQ 8,(9,(aD N)),(10,(aD z)),(11,(.row 36)),(22,(.row 5096)),(23,(aD G)),(24,(aD I)),(38,(aD K)),(39,(aD L))] [(2,(cN O)),(4,(cN Q)),(5,(.box 213 [(.row 13)])),(6,(.box 51 [(.row 5096)])),(8,(.box 30 [(.row 20)])),(13,(xg B)),(20,(dR D)),(36,(iO F)),(5096,(dw l)),(5128,(dR q)),(5336,(dR w))]
abbrev f472:=λB D l q w z=>dec (W6 l q) (Rn 80 [(.ptr 10000 0),(aD B),(aD D)] (tl5 l q w z))
abbrev f432:=λl=>rn Q16 81 [(gq l)]
abbrev Lq:=λq w l=>hd Q16 81 3 [fQ 1,(3,(.row 10)),(4,(aD q))] [(1,(cN w)),(10,(dw l))]
abbrev Qy:=λq z w B l=>hd Q16 81 8 [fQ 1,(3,(.row 10)),(4,(aD q)),(5,(gj z)),(6,(aD w))] [(1,(cN B)),(10,(dw l))]
abbrev f435:=λl=>rn Q4 82 [(gq l)]
abbrev QA:=λl q=>hd Q4 82 6 [fQ 1,(3,(aD l))] [(1,(cN q))]
abbrev f436:=λq l=>rn Q9 83 [(gq q),(aD l)]
abbrev QB:=λB D F G l q w z=>hd Q9 83 3 [(1,(aD B)),fQ 2,fQ 4,(5,(.ptr 14 0)),(6,(aD D))] [(2,(cN F)),(4,(cN G)),(14,(.box 223 [(c4 l),(.row 5209),(.row 5210)])),(5208,(dR q)),(5209,(dw w)),(5210,(dw z))]
abbrev GC:=λD F G l q w z B=>hd Q9 83 9 [fQ 2,fQ 4,(5,(.ptr 14 0)),fQ 7,(8,(aD D))] [(2,(cN F)),(4,(cN G)),(7,(.box 30 [(.row 5112)])),(14,(.box 223 [(c4 l),(.row 5209),(.row 5210)])),(5112,(dR q)),(5208,(dR w)),(5209,(dw z)),(5210,(dw B))]
abbrev Fv:=λG D I K L l F q w z B=>hd Q9 83 14 [fQ 2,fQ 4,(5,(.ptr 14 0)),fQ 7,(8,(aD G)),fQ 9,(10,(.row 56)),(11,(aD D))] [(2,(cN I)),(4,(cN K)),(7,(.box 30 [(.row 5112)])),(9,(qf L)),(14,(.box 223 [(c4 l),(.row 5209),(.row 5210)])),(56,(iO F)),(5112,(dR q)),(5208,(dR w)),(5209,(dw z)),(5210,(dw B))]
abbrev f446:=λl q=>rn Q2 84 [(gq l),(gq q)]
abbrev f63:=λl q=>rn Q2 85 [(gT l),(gT q)]
abbrev YC:=λl q w z=>hd Q2 85 2 [(1,(gT l)),(7,(gT q)),(8,(aD w)),(9,(aD z))] []
abbrev f573:=λw q z l=>rn Q2 86 [(bN w),(gq q),(aD z),(uo l)]
abbrev f575:=λw l q=>rn Q2 87 [(bN w),(gq l),(gq q)]
abbrev f574:=λl q=>rn Q9 88 [(gq l),(aD q)]
abbrev f576:=λw D q B (z:List bI) l=>dec (RC) (Rn 89 [(bN w),(cU D),(gq q),(aD B),(.pv (.dG 4 (List.map bI.gQ z))),(.row 20000)] [(20000,(pN l))])
abbrev GG:=λG B (z:List bI) q w D F l=>hx (RC) 89 3 [20000] [(1,(cU G)),(3,(aD B)),(4,(.pv (.dG 4 (List.map bI.gQ z)))),(5,(.row 20000)),fQ 6,fQ 8,(14,(UB q)),(15,(aD w))] [(6,(cr D)),(8,(cN F)),(20000,(pN l))]
abbrev f577:=λq l w z=>rn Q4 90 [(bN q),(gq l),(aD w),(c9 z)]
abbrev LL:=λq B l w z=>hd Q4 90 2 [(2,(aD q)),(3,(c9 B)),fQ 4,fQ 5,(9,(aD l))] [(4,(cr w)),(5,(cN z))]
abbrev f578:=λw D q B (z:List bI) l=>dec (UC) (Rn 91 [(bN w),(cU D),(gq q),(aD B),(.pv (.dG 4 (List.map bI.gQ z))),(.row 20000)] [(20000,(pN l))])
abbrev f579:=λw D q B (z:List bI) l=>dec (HU) (Rn 92 [(bN w),(cU D),(gq q),(aD B),(.pv (.dG 4 (List.map bI.gQ z))),(.row 20000)] [(20000,(pN l))])
abbrev sR:=λF z (w:List bI) q B D l=>hx (HU) 92 3 [20000] [(1,(cU F)),(3,(aD z)),(4,(.pv (.dG 4 (List.map bI.gQ w)))),(5,(.row 20000)),fQ 6,fQ 8,(16,(aD q))] [(6,(cr B)),(8,(cN D)),(20000,(pN l))]
abbrev f466:=λq l=>rn Q4 93 [(IM q),(aD l)]
abbrev QK:=λl z B q w=>hd Q4 93 2 [(1,(aD l)),(8,(gj z)),(9,(aD B)),(10,(aD q))] [(2,(qf w))]
abbrev f318:=λl=>rn Q4 94 [(bH l)]
abbrev IT:=λl z q w=>hd Q4 94 11 [(0,(bH l)),(3,(gW z)),(5,(c9 q)),(7,(aD w))] []
abbrev Fp:=λq z w l=>hd Q4 94 17 [(0,(bH q)),(3,(gW z)),(5,(c9 w)),(10,(aD l))] []
abbrev Fq:=λw B z q l=>hd Q4 94 20 [(0,(bH w)),(3,(gW B)),(5,(c9 z)),(10,(aD q)),(11,(aD l))] []
abbrev f345:=λl=>rn Q15 95 [(bH l)]
abbrev Lh:=λq l w=>hd Q15 95 3 [(0,(bH q)),(3,(c9 l)),(4,(aD w))] []
abbrev Qe:=λq l w z=>hd Q15 95 6 [(0,(bH q)),(3,(c9 l)),(4,(aD w)),(5,(aD z))] []
abbrev f370:=λq w z l=>rn Q26 96 [(bH q),(gW w),(aD z),(uo l)]
abbrev GA:=λB D F q w l z=>hd Q26 96 4 [(0,(bH B)),(1,(gW D)),(2,(aD F)),(3,(uo q)),(10,(UB w)),(11,(gT l)),(12,(aD z))] []
abbrev f19:=λq l=>rn Q4 97 [(gW q),(gT l)]
abbrev Yw:=λq w l=>hd Q4 97 3 [(0,(gW q)),(5,(gT w)),(6,(aD l))] []
abbrev f32:=λl=>rn Q4 98 [(bH l)]
abbrev Lf:=λl w q=>hd Q4 98 12 [(0,(bH l)),(6,(aD w)),(7,(aD q))] []
abbrev f52:=λl=>rn Q15 99 [(bH l)]
abbrev Yy:=λq l w=>hd Q15 99 3 [(0,(bH q)),(3,(c9 l)),(4,(aD w))] []
abbrev f53:=λw q l=>rn Q19 100 [(bH w),(c9 q),(uo l)]
abbrev Ud:=λl q w z=>hd Q19 100 4 [(1,(c9 l)),(7,(c9 q)),yU 8,(9,(aD w))] [(8,(dw z))]
abbrev f54:=λl=>rn Q21 101 [(vp l)]
abbrev ND:=λl q=>hd Q21 101 3 [(3,(.row 7)),(4,(aD l))] [(7,(B1 q))]
abbrev NF:=λl q w=>hd Q21 101 6 [(3,(.row 7)),(4,(aD l)),(5,(aD q))] [(7,(B1 w))]
abbrev f55:=λz q l w=>rn Q27 102 [(bH z),(c9 q),(vp l),(gT w)]
abbrev Ue:=λB q l z w D=>hd Q27 102 3 [(0,(bH B)),(1,(c9 q)),(2,(vp l)),(3,(gT z)),yU 9,(10,(aD w))] [(9,(gu D))]
abbrev GF:=λw q l=>hd Q27 102 12 [(9,(c9 w)),(11,(uo q)),(12,(aD l))] []
abbrev f56:=λl q=>rn Q2 103 [(TD l),(TD q)]
abbrev f25:=λw l q=>rn Q2 104 [(gW w),(aD l),(aD q)]
abbrev f357:=λq l=>rn Q25 105 [(bH q),(uo l)]
abbrev Ll:=λw q l z=>hd Q25 105 3 [(0,(bH w)),(1,(uo q)),(6,(c9 l)),(7,(aD z))] []
abbrev f358:=λq l=>rn Q4 106 [(gW q),(uo l)]
abbrev Qj:=λw l q=>hd Q4 106 2 [(0,(gW w)),(1,(uo l)),(5,(aD q))] []
abbrev f110:=λl=>rn Q2 107 [(uo l)]
abbrev f524:=λw l q=>rn Q4 108 [(jZ w),(aD l),(aD q)]
abbrev Ra:=λl q w z=>hd Q4 108 4 [(1,(aD l)),(2,(aD q)),fQ 3,(7,(aD w))] [(3,(kT z))]
abbrev FE:=λl q z w B=>hd Q4 108 10 [(1,(aD l)),(2,(aD q)),fQ 3,(8,(aD z)),(9,(aD w))] [(3,(kT B))]
abbrev f525:=λq l=>rn Q4 109 [(jZ q),(aD l)]
abbrev Aj:=λl q w=>hd Q4 109 11 [fQ 2,(5,(aD l)),(6,(aD q))] [(2,(kT w))]
abbrev f539:=λq l=>rn Q4 110 [(oM q),(uo l)]
abbrev Rb:=λw l q=>hd Q4 110 2 [(0,(oM w)),(1,(uo l)),(5,(aD q))] []
abbrev f546:=λl=>rn Q15 111 [(Pt l)]
abbrev Rc:=λq w l=>hd Q15 111 3 [fQ 1,(3,(.row 5121)),(4,(aD q))] [(1,(Ej w)),(5121,(gu l))]
abbrev MR:=λw q l=>dec (CL) (Rn 112 [(bN w),(.row 10000),(jZ q)] [(10000,(gm l))])
abbrev f548:=λq l=>dec (DY) (Rn 113 [(jZ q),(.row 20000)] [(20000,(gu l))])
abbrev GD:=λq w l=>hx (DY) 113 4 [20000] [(1,(.row 20000)),fQ 2,(5,(aD q))] [(2,(kT w)),(20000,(gu l))]
abbrev f547:=λl q=>rn Q2 114 [(cU l),(Pt q)]
abbrev Re:=λw q l=>hd Q2 114 3 [(0,(cU w)),(5,(c9 q)),(6,(aD l))] []
abbrev f108:=λl q=>rn Q19 115 [(gT l),(gT q)]
abbrev P8:=λl q w z=>hd Q19 115 3 [(0,(gT l)),(1,(gT q)),yU 5,(6,(aD w))] [(5,(yJ z))]
abbrev f558:=λl q=>rn Q4 119 [(uo l),(uo q)]
abbrev f540:=λq l=>rn Q20 128 [(cU q),(uo l),(.pv (.fn 129 []))]
abbrev LK:=λB l z w q=>hd Q20 128 3 [(0,(cU B)),(1,(uo l)),(2,(.pv (.fn 129 []))),(8,(aD z)),(9,(aD w)),(10,(aD q))] []
abbrev f556:=λq l=>rn Q4 129 [(TE q),(uo l)]
abbrev E533r (l:List Int) (q:List fM) (w:List cW) (z:List Template):=eD Q2 (dT 10000 (.box 78 [(.ptr 10002 0)]) (dT 10001 (.box 51 [(eU l)]) (dI 10002 (iL 141 [(eW q),(er w),(cU z),(.row 10003)] 2 Node.enc) (dJ 10003 (iM 9 51 V9 Uy) dZ))))
abbrev W7 (l:List fM) (q:List cW) (w:List Template):=eD Q2 (dT 10000 (.box 78 [(.ptr 10001 0)]) (dI 10001 (iL 141 [(eW l),(er q),(cU w),(.row 10002)] 2 Node.enc) (dJ 10002 (iM 9 51 V9 Uy) dZ)))
abbrev f533b:=λ(F:List bI) l q w z B D=>dec (E533r l q w z) (Rn 134 [(.pv (.dG 4 (List.map bI.gQ F))),(.cl 139 [.p 10000, .p 10001])] (YK l q w z B D))
abbrev Xn:=λ(D:List bI) l q w z B=>dec (W7 l q w) (Rn 134 [(.pv (.dG 4 (List.map bI.gQ D))),(.cl 135 [.p 10000])] (tl3 l q w z B))
abbrev abo:=λD l q w z B=>dec (W7 l q w) (Rn 135 [(jZ D),(.ptr 10000 0)] (tl3 l q w z B))
abbrev vQ:=λD F l q w z B=>dec (MD l q w) (Rn 136 [(.ptr 10000 0),(eU D),(aD F)] (tl0 l q w z B))
abbrev MT:=λF D l q w z B=>dec (MD l q w) (Rn 137 [(.ptr 10000 0),(eU F),(gq D)] (tl0 l q w z B))
abbrev JM:=λD F l q w z B=>dec (MD l q w) (Rn 138 [(.ptr 10000 0),(eU D),(eU F)] (tl0 l q w z B))
abbrev abn:=λF l q w z B D=>dec (E533r l q w z) (Rn 139 [(jZ F),(.ptr 10000 0),(.ptr 10001 0)] (YK l q w z B D))
abbrev E534r (l:List fM) (q:List cW) (w:List Template):=eD Q16 (dI 10000 (iL 141 [(eW l),(er q),(cU w),(.row 10001)] 2 Node.enc) (dJ 10001 (iM 9 51 V9 Uy) dZ))
abbrev Bz:=λF B l q w z D=>dec (E534r l q w) (Rn 140 [(.ptr 10000 0),(eU F),(c9 B)] (tl0 l q w z D))
abbrev I8:=λF G I D l q w z B=>hx (E534r l q w) 140 3 [10000,10001] [(0,(.ptr 10000 0)),(7,(.row 11)),(12,(c9 F)),(13,(aD G)),(14,(aD I))] ((11,(dw D))::(tl0 l q w z B))
abbrev E535r (l:List fM) (q:List cW) (w:List Template):=eD Q11 (dI 10000 (iL 141 [(eW l),(er q),(cU w),(.row 10001)] 2 Node.enc) (dJ 10001 (iM 9 51 V9 Uy) dZ))
abbrev MU:=λ(D:List bI) F l q w z B=>dec (E535r l q w) (Rn 141 [(.ptr 10000 0),(.pv (.dG 4 (List.map bI.gQ D))),(eU F)] (tl0 l q w z B))
abbrev CD:=λI (D:List bI) F G l q w z B=>hx (E535r l q w) 141 2 [10000,10001] [(0,(.ptr 10000 0)),(2,(eU I)),(10,(.pv (.dG 4 (List.map bI.gQ D)))),(11,(aD F)),(12,(aD G))] (tl0 l q w z B)
abbrev f353a:=λq (l:List UInt8)=>rn Q4 142 [(eW q),(.pv (.fn 143 [(.ref [(.str l)])]))]
abbrev f353:=λq (l:List Int)=>rn Q4 142 [(eW q),(.pv (.fn 203 [(.ref [(.dG 1 (List.map (dW .u64) l))])]))]
abbrev IW:=λq (l:List UInt8) w z=>hd Q4 142 2 [(0,(eW q)),(1,(.pv (.fn 143 [(.ref [(.str l)])]))),(7,(aD w)),(8,(aD z))] []
abbrev Qg:=λq (l:List Int) w z=>hd Q4 142 2 [(0,(eW q)),(1,(.pv (.fn 203 [(.ref [(.dG 1 (List.map (dW .u64) l))])]))),(7,(aD w)),(8,(aD z))] []
abbrev f374:=λq (l:List UInt8)=>rn Q2 143 [(TF q),(.pv (.ref [(.str l)]))]
abbrev E488r (l:FSt):=eD Q23 (dT 10000 (.box 51 [(.row 20004)]) (dT 10001 (.box 213 [(.row 10005)]) (dT 10002 (cN l) (dT 10003 (.box 214 [(.cl 144 [.p 10000, .p 10001, .p 10002, .p 10003])]) (dI 20004 (iR 3 1 (dW .i64)) (dJ 10005 (iM 3 3 V3 V3) dZ))))))
abbrev f488:=λz l w q=>dec (E488r l) (Rn 144 [(aD z),(.ptr 10000 0),(.ptr 10001 0),(.ptr 10002 0),(.ptr 10003 0)] [(10000,(.box 51 [(.row 20004)])),(10001,(.box 213 [(.row 10005)])),(10002,(cN l)),(10003,(.box 214 [(.cl 144 [.p 10000, .p 10001, .p 10002, .p 10003])])),(20004,(dw w)),(10005,(xg q))])
abbrev LF:=λz B o25 l q w=>hx (E488r l) 144 3 [10000,10001,10002,10003,20004,10005] [(2,(.ptr 10001 0)),(4,(.ptr 10003 0)),yU 25,(26,(aD z)),(27,(aD B))] [(25,(iO o25)),(10000,(.box 51 [(.row 20004)])),(10001,(.box 213 [(.row 10005)])),(10002,(cN l)),(10003,(.box 214 [(.cl 144 [.p 10000, .p 10001, .p 10002, .p 10003])])),(10005,(xg q)),(20004,(dw w))]
abbrev f490:=λ(l:List cz)=>rn Q30 145 [(.pv (.fn 200 [(.ref [(.dG 2 (List.map cz.enc l))])])),(.pv (.fn 147 []))]
abbrev f489:=λl=>rn Q29 146 [(gj l)]
abbrev f335:=λw l q=>rn Q20 148 [(bN w),(aD l),(aD q)]
abbrev f454:=λl q=>rn Q4 149 [(gj l),(aD q)]
abbrev Lw:=λq w l=>hd Q4 149 2 [(0,(gj q)),(1,(aD w)),(5,(aD l))] []
abbrev Lx:=λw z l q=>hd Q4 149 7 [(0,(gj w)),(1,(aD z)),(5,(aD l)),(6,(aD q))] []
abbrev E455r (l:List Node):=eD Q23 (dT 10000 (.box 223 [(c4 l),(.row 20001),(.row 20002)]) (dI 20001 (iR 3 1 (dW .i64)) (dJ 20002 (iR 3 1 (dW .i64)) dZ)))
abbrev f455:=λz l q w=>dec (E455r l) (Rn 150 [(.ptr 10000 0),(aD z)] [(10000,(.box 223 [(c4 l),(.row 20001),(.row 20002)])),(20001,(dw q)),(20002,(dw w))])
abbrev Lz:=λB z l q w=>hx (E455r l) 150 4 [10000,20001,20002] [(0,(.ptr 10000 0)),(4,(gj B)),(5,(aD z))] [(10000,(.box 223 [(c4 l),(.row 20001),(.row 20002)])),(20001,(dw q)),(20002,(dw w))]
abbrev f463:=λl=>rn Q30 151 [(gj l)]
abbrev Ah:=λq l w=>hd Q30 151 3 [(0,(gj q)),yU 3,(4,(aD l))] [(3,(iO w))]
abbrev I5:=λq l z w=>hd Q30 151 6 [(0,(gj q)),yU 3,(4,(aD l)),(5,(aD z))] [(3,(iO w))]
abbrev f458:=λl q=>rn Q4 152 [(gq l),(gq q)]
abbrev f107:=λl q=>rn Q28 153 [(gT l),(aD q)]
abbrev f580:=λw l q=>rn Q11 154 [(bN w),(gq l),(gq q)]
abbrev Rg:=λq w z B l=>hd Q11 154 3 [fQ 3,fQ 4,fQ 5,(8,(.row 20)),(9,(aD q))] [(3,(cr w)),(4,(cN z)),(5,(cN B)),(20,(dw l))]
abbrev GH:=λl z B D q w=>hd Q11 154 8 [fQ 3,fQ 4,fQ 5,(8,(.row 20)),(10,(.row 30)),(11,(aD l))] [(3,(cr z)),(4,(cN B)),(5,(cN D)),(20,(dw q)),(30,(dw w))]
abbrev vv:=λl z w q F G I B D=>hd Q11 154 15 [fQ 3,fQ 4,fQ 5,(8,(.row 20)),(10,(.row 30)),(11,(aD l)),(12,(aD z)),(13,(gj w)),(14,(aD q))] [(3,(cr F)),(4,(cN G)),(5,(cN I)),(20,(dw B)),(30,(dw D))]
abbrev f476:=λq w l=>rn Q20 155 [(gq q),(aD w),(aD l)]
abbrev QM:=λl w q=>hd Q20 155 3 [(2,(aD l)),(8,(gj w)),(9,(aD q))] []
abbrev f346:=λl=>rn Q4 156 [(bH l)]
abbrev Li:=λq l w=>hd Q4 156 3 [(0,(bH q)),(3,(c9 l)),(4,(aD w))] []
abbrev Lj:=λq l w B z=>hd Q4 156 7 [(0,(bH q)),(3,(c9 l)),(4,(aD w)),(5,(E4 B)),(6,(aD z))] []
abbrev IU:=λq l w B z D=>hd Q4 156 12 [(0,(bH q)),(3,(c9 l)),(4,(aD w)),(5,(E4 B)),(6,(aD z)),(7,(aD D))] []
abbrev f98:=λl q=>rn Q15 157 [(c9 l),(uo q)]
abbrev YH:=λl w z q=>hd Q15 157 3 [(0,(c9 l)),(1,(uo w)),yU 5,(6,(aD z))] [(5,(gu q))]
abbrev f373:=λq l=>rn Q25 158 [(Hy q),(uo l)]
abbrev Qn:=λl q w=>hd Q25 158 2 [(1,(uo l)),fQ 2,(6,(aD q))] [(2,(r9 w))]
abbrev f61:=λl q=>rn Q19 159 [(gT l),(gT q)]
abbrev YB:=λl q w z=>hd Q19 159 3 [(0,(gT l)),(1,(gT q)),yU 5,(6,(aD w))] [(5,(yJ z))]
abbrev f60:=λl=>rn Q19 160 [(gT l)]
abbrev YA:=λl q=>hd Q19 160 2 [(0,(gT l)),(3,(aD q))] []
abbrev f57:=λl q=>rn Q2 161 [(gT l),(gT q)]
abbrev Yz:=λl q w=>hd Q2 161 4 [(0,(gT l)),(1,(gT q)),(5,(aD w))] []
abbrev f70:=λl=>rn Q4 162 [(bH l)]
abbrev YE:=λl q=>hd Q4 162 4 [(0,(bH l)),(3,(aD q))] []
abbrev f71:=λl=>rn Q4 163 [(bH l)]
abbrev YF:=λl q=>hd Q4 163 2 [(0,(bH l)),(3,(aD q))] []
abbrev f72:=λl=>rn Q4 164 [(bH l)]
abbrev Uf:=λl q=>hd Q4 164 2 [(0,(bH l)),(3,(aD q))] []
abbrev YG:=λl q z w=>hd Q4 164 6 [(0,(bH l)),(3,(aD q)),(4,(c9 z)),(5,(aD w))] []
abbrev f73:=λl=>rn Q15 165 [(bH l)]
abbrev LM:=λq l w=>hd Q15 165 3 [(0,(bH q)),yU 3,(4,(UB l))] [(3,(gu w))]
abbrev FH:=λw l q z B=>hd Q15 165 7 [(0,(bH w)),yU 3,(4,(UB l)),(5,(uo q)),(6,(aD z))] [(3,(gu B))]
abbrev f99:=λq l=>rn Q15 166 [(bH q),(uo l)]
abbrev Ug:=λq w l=>hd Q15 166 5 [(0,(bH q)),(5,(.row 15)),(6,(aD w))] [(15,(gu l))]
abbrev NG:=λq w k7 l=>hd Q15 166 8 [(0,(bH q)),(5,(.row 15)),(6,(aD w)),(7,(aD k7))] [(15,(gu l))]
abbrev GI:=λl w q=>hd Q15 166 14 [(5,(.row 15)),(8,(c9 l)),(9,(aD w))] [(15,(gu q))]
abbrev f37:=λl q=>rn Q2 167 [(c9 l),(uo q)]
abbrev Yx:=λq w l=>hd Q2 167 2 [(0,(c9 q)),(1,(uo w)),(5,(aD l))] []
abbrev f100:=λl=>rn Q31 168 [(eU l)]
abbrev P6:=λq l w=>hd Q31 168 3 [(0,(eU q)),(4,(.row 6)),(5,(aD l))] [(6,(yJ w))]
abbrev f101:=λq l=>rn Q2 169 [(vp q),(gT l)]
abbrev P7:=λw l q=>hd Q2 169 2 [(0,(vp w)),(1,(gT l)),(5,(aD q))] []
abbrev f102:=λl q=>rn Q2 170 [(gT l),(gT q)]
abbrev f103:=λl q=>rn Q2 171 [(gT l),(aD q)]
abbrev f104:=λl q=>rn Q15 172 [(bH l),(c9 q)]
abbrev Gy:=λq l w z=>hd Q15 172 4 [(0,(bH q)),yU 5,(6,(c9 l)),(7,(aD w))] [(5,(gu z))]
abbrev Gz:=λB q D z l w F=>hd Q15 172 9 [(0,(bH B)),yU 5,(6,(c9 q)),(7,(aD D)),(8,(c9 z)),(9,(UB l)),(10,(aD w))] [(5,(gu F))]
abbrev f105:=λl=>rn Q4 173 [(gT l)]
abbrev f140:=λq l=>rn Q2 174 [(uo q),(UB l)]
abbrev Lc:=λw l q=>hd Q2 174 4 [(0,(uo w)),(1,(UB l)),(5,(aD q))] []
abbrev f538:=λl=>rn Q2 175 [(jZ l)]
abbrev LJ:=λl q=>hd Q2 175 6 [fQ 1,(3,(aD l))] [(1,(kT q))]
abbrev f507:=λq w l=>rn Q2 176 [(bN q),(cU w),(jZ l)]
abbrev oP:=λz l q w=>hd Q2 176 12 [(1,(cU z)),fQ 3,fQ 5,(7,(aD l))] [(3,(cr q)),(5,(kT w))]
abbrev FC:=λz l q w=>hd Q2 176 17 [(1,(cU z)),fQ 3,fQ 5,(8,(aD l))] [(3,(cr q)),(5,(kT w))]
abbrev kV:=λD (w:List Node) (z:Bool) F B l q=>dec (tN) (Rn 177 [(bN D),(.row 10000),(.ag [.v (.dG 2 (List.map Node.enc w)), .v (.bool z), .r 20001]),(eU F),(jZ B)] (aec l q))
abbrev wE:=λK D B G w z I F l q=>hx (tN) 177 11 [10000,20001] [(1,(.row 10000)),(3,(eU K)),fQ 5,fQ 7,fQ 9,fQ 10,(11,(aD D)),(12,(aD B))] ((5,(cr G))::(7,(.box 243 [(c4 w),(UB z),(.row 20001)]))::(9,(kT I))::(10,(wX F))::(aec l q))
abbrev FD:=λB G w z I D F l q=>hx (tN) 177 18 [10000,20001] [(1,(.row 10000)),fQ 5,fQ 7,fQ 9,fQ 10,(13,(.row 72)),(14,(aD B))] ((5,(cr G))::(7,(.box 243 [(c4 w),(UB z),(.row 20001)]))::(9,(kT I))::(10,(wX D))::(72,(dw F))::(aec l q))
abbrev f441:=λq l=>rn Q10 178 [(bN q),(gq l)]
abbrev QD:=λl q w z B=>hd Q10 178 3 [fQ 2,fQ 3,fQ 4,yU 6,(7,(aD l))] (tl13 q w z B)
abbrev Ae:=λl q w z B=>hd Q10 178 7 [fQ 2,fQ 3,fQ 4,yU 6,(8,(UB l))] (tl13 q w z B)
abbrev xB:=λl q w z B D=>hd Q10 178 10 [fQ 2,fQ 3,fQ 4,yU 6,(9,(eU l)),(10,(aD q))] (tl13 w z B D)
abbrev xC:=λl q z w B D F G=>hd Q10 178 14 [fQ 2,fQ 3,fQ 4,yU 6,(9,(eU l)),(10,(aD q)),(11,(gj z)),(12,(aD w))] (tl13 B D F G)
abbrev I4:=λq w z B l=>hd Q10 178 21 [fQ 3,fQ 4,yU 6,fQ 13,(14,(aD q))] [(3,(cN w)),(4,(cN z)),(6,(dw B)),(13,(.box 30 [(.row 5208)])),(5208,(dR l))]
abbrev f555:=λl q=>rn Q2 179 [(c9 l),(uo q)]
abbrev Rf:=λq w l=>hd Q2 179 2 [(0,(c9 q)),(1,(uo w)),(5,(aD l))] []
abbrev f106:=λl q=>rn Q28 180 [(gT l),(aD q)]
abbrev f426:=λq l=>rn Q9 189 [(eU q),(gq l)]
abbrev GB:=λF q w z B D l=>hd Q9 189 3 [(0,(eU F)),fQ 3,fQ 4,fQ 5,(13,(eU q)),(14,(aD w)),(15,(aD z))] (tl8 B D l)
abbrev Ln:=λF q w z B D l=>hd Q9 189 8 [(0,(eU F)),fQ 4,fQ 5,(33,(c4 q)),(34,(aD w)),(35,(aD z))] (tl8 B D l)
abbrev I1:=λQ B D F G I K L N O l q w z=>hd Q9 189 12 [(0,(eU Q)),fQ 4,fQ 5,fQ 10,(33,(c4 B)),(34,(aD D)),(35,(aD F)),(43,(gj G)),(44,(aD I)),(45,(aD K))] [(3,(cN L)),(4,(cN N)),(5,(.box 30 [(.row 5080)])),(9,(qf O)),(10,(.box 71 [(aD l),(.row 5657)])),(5080,(dR q)),(5161,(iO w)),(5657,(iO z))]
abbrev f425:=λl=>rn Q9 190 [(aD l)]
abbrev f438:=λq l w z=>rn Q10 194 [(bN q),(gq l),(eU w),(eU z)]
abbrev E543r (l:List Int) (q:List fM) (w:List cW) (z:List Template):=eD Q4 (dT 10000 (.box 78 [(.ptr 10002 0)]) (dT 10001 (.box 51 [(eU l)]) (dI 10002 (iL 141 [(eW q),(er w),(cU z),(.row 10003)] 2 Node.enc) (dJ 10003 (iM 9 51 V9 Uy) dZ))))
abbrev Rx (l:List fM) (q:List cW) (w:List Template):=eD Q4 (dT 10000 (.box 78 [(.ptr 10001 0)]) (dI 10001 (iL 141 [(eW l),(er q),(cU w),(.row 10002)] 2 Node.enc) (dJ 10002 (iM 9 51 V9 Uy) dZ)))
abbrev f543b:=λ(F:List bI) l q w z B D=>dec (E543r l q w z) (Rn 195 [(.pv (.dG 4 (List.map bI.gQ F))),(.cl 139 [.p 10000, .p 10001])] (YK l q w z B D))
abbrev f543c:=λ(D:List bI) l q w z B=>dec (Rx l q w) (Rn 195 [(.pv (.dG 4 (List.map bI.gQ D))),(.cl 135 [.p 10000])] (tl3 l q w z B))
abbrev CE:=λ(F:List bI) G I l q w z B D=>hx (E543r l q w z) 195 2 [10000,10001,10002,10003] [(0,(.pv (.dG 4 (List.map bI.gQ F)))),(1,(.cl 139 [.p 10000, .p 10001])),(7,(aD G)),(8,(aD I))] (YK l q w z B D)
abbrev I9:=λ(D:List bI) F G l q w z B=>hx (Rx l q w) 195 2 [10000,10001,10002] [(0,(.pv (.dG 4 (List.map bI.gQ D)))),(1,(.cl 135 [.p 10000])),(7,(aD F)),(8,(aD G))] (tl3 l q w z B)
abbrev f542:=λw l z q=>rn Q10 196 [(bN w),(gq l),(eU z),(gq q)]
abbrev f460:=λl=>rn Q22 197 [(eU l)]
abbrev f464:=λl q=>rn Q4 201 [(aD l),(aD q)]
abbrev f29:=λl q=>rn Q19 202 [(gT l),(gT q)]
abbrev Uc:=λz B q w l=>hd Q19 202 3 [(0,(gT z)),(1,(gT B)),(5,(.row 12)),(14,(aD q)),(15,(aD w))] [(12,(yJ l))]
abbrev f371:=λq (l:List Int)=>rn Q2 203 [(TF q),(.pv (.ref [(.dG 1 (List.map (dW .u64) l))]))]
abbrev f31:=λl q=>rn Q2 204 [(gT l),(gT q)]
abbrev f465:=λl q=>rn Q4 205 [(c4 l),(c4 q),(.pv (.fn 206 []))]
abbrev QJ:=λl q w z B=>hd Q4 205 2 [(0,(c4 l)),(1,(c4 q)),(2,(.pv (.fn 206 []))),(11,(c4 w)),(12,(aD z)),(13,(aD B))] []
abbrev f473:=λl q=>rn Q4 206 [(IM l),(IM q)]
abbrev f372:=λl=>rn Q2 207 [(uo l)]
abbrev f111:=λq l=>rn Q4 208 [(bH q),(uo l)]
abbrev P9:=λq l w=>hd Q4 208 2 [(0,(bH q)),(1,(uo l)),(5,(aD w))] []
abbrev f112:=λq l=>rn Q2 209 [(Hy q),(c9 l)]
abbrev Qa:=λl q w=>hd Q2 209 2 [(1,(c9 l)),fQ 2,(5,(aD q))] [(2,(r9 w))]
abbrev f137:=λl q=>rn Q15 210 [(bH l),(c9 q)]
abbrev K8:=λq z l w=>hd Q15 210 3 [(0,(bH q)),(1,(c9 z)),(5,(c9 l)),(6,(aD w))] []
abbrev f138:=λq l=>rn Q15 211 [(bH q),(uo l)]
abbrev K9:=λq w l=>hd Q15 211 5 [(0,(bH q)),(5,(.row 16)),(6,(aD w))] [(16,(gu l))]
abbrev La:=λq w B z l=>hd Q15 211 9 [(0,(bH q)),(5,(.row 16)),(6,(aD w)),(7,(c9 B)),(8,(aD z))] [(16,(gu l))]
abbrev CA:=λl q w=>hd Q15 211 15 [(5,(.row 16)),(9,(c9 l)),(10,(aD q))] [(16,(gu w))]
abbrev f139:=λl=>rn Q16 212 [(gT l)]
abbrev Lb:=λl q w=>hd Q16 212 3 [(0,(gT l)),yU 3,(4,(aD q))] [(3,(dw w))]
abbrev f159:=λl=>rn Q2 213 [(Yj l)]
abbrev f160:=λq l=>rn Q2 214 [(Yj q),(UB l)]
abbrev f545:=λl=>rn Q2 215 [(aD l)]
abbrev f554:=λl=>rn Q2 216 [(jZ l)]
abbrev CF:=λq l w=>hd Q2 216 13 [fQ 1,(3,(aD q)),(4,(aD l))] [(1,(kT w))]
abbrev f517:=λB (w:List Node) (z:Bool) D q l=>dec (CI) (Rn 217 [(bN B),(.ag [.v (.dG 2 (List.map Node.enc w)), .v (.bool z), .r 20000]),(eU D),(uo q)] [(20000,(pO l))])
abbrev f518:=λB (q:List Node) (w:Bool) D z l=>dec (HS) (Rn 218 [(bN B),(.ag [.v (.dG 2 (List.map Node.enc q)), .v (.bool w), .r 20000]),(eU D),(gq z)] [(20000,(pO l))])
abbrev f519:=λB (w:List Node) (z:Bool) D q l=>dec (NS) (Rn 219 [(bN B),(.ag [.v (.dG 2 (List.map Node.enc w)), .v (.bool z), .r 20000]),(eU D),(uo q)] [(20000,(pO l))])
abbrev QX:=λG q B D w z F l=>hx (NS) 219 2 [20000] [(2,(eU G)),(3,(uo q)),fQ 4,fQ 5,fQ 8,(9,(aD B))] [(4,(cr D)),(5,(.box 243 [(c4 w),(UB z),(.row 20000)])),(8,(wX F)),(20000,(pO l))]
abbrev Xm:=λB (w:List Node) (z:Bool) F (D:List bI) l q=>dec (ye) (Rn 220 [(bN B),(.row 10000),(.ag [.v (.dG 2 (List.map Node.enc w)), .v (.bool z), .r 20001]),(eU F),(.pv (.dG 4 (List.map bI.gQ D)))] (aec l q))
abbrev vt:=λI (F:List bI) B G w z D l q=>hx (ye) 220 2 [10000,20001] [(1,(.row 10000)),(3,(eU I)),(4,(.pv (.dG 4 (List.map bI.gQ F)))),fQ 5,fQ 7,fQ 10,(11,(aD B))] ((5,(cr G))::(7,(.box 243 [(c4 w),(UB z),(.row 20001)]))::(10,(wX D))::(aec l q))
abbrev f521:=λw l q=>rn Q16 221 [(eU w),(aD l),(aD q)]
abbrev QY:=λl q w=>hd Q16 221 2 [(1,(aD l)),(2,(aD q)),(7,(.row 8))] [(8,(dw w))]
abbrev f522:=λz (q:List Node) (w:Bool) B D l=>dec (NT) (Rn 222 [(bN z),(.ag [.v (.dG 2 (List.map Node.enc q)), .v (.bool w), .r 20000]),(eU B),(eU D)] [(20000,(pO l))])
abbrev E477r:=eR Q2 10000 3 1 (dW .i64)
abbrev f477:=λq w z l=>dec (E477r) (Rn 223 [(bN q),(.row 10000),(aD w),(Wu z)] [(10000,(dw l))])
abbrev f471:=λl q=>rn Q2 224 [(eU l),(eU q)]
abbrev QL:=λl q w=>hd Q2 224 2 [(0,(eU l)),(1,(eU q)),(5,(aD w))] []
abbrev f433:=λw l q=>rn Q10 233 [(bN w),(gq l),(gq q)]
abbrev aas (l:List fM) (q:List cW):=eD Q23 (dT 10000 (.box 297 [(eW l),(er q),(.row 20001),(.row 20002),(.row 20003)]) (dI 20001 (iR 3 1 (dW .i64)) (dI 20002 (iR 3 1 (dW .i64)) (dJ 20003 (iR 69 1 (mF 2 cz.enc)) dZ))))
abbrev f442:=λD l q w z B=>dec (aas l q) (Rn 238 [(.ptr 10000 0),(c4 D)] (YJ l q w z B))
abbrev Lr:=λI D F G l q w z B=>hx (aas l q) 238 2 [10000,20001,20002,20003] [(0,(.ptr 10000 0)),(4,(aD I)),(15,(c4 D)),(16,(aD F)),(17,(aD G))] (YJ l q w z B)
abbrev QE:=λQ D F G I K L N O l q w z B=>hx (aas l q) 238 8 [10000,20001,20002,20003] [(0,(.ptr 10000 0)),(4,(aD Q)),yU 7,(15,(c4 D)),(16,(aD F)),(17,(aD G)),(46,(gj I)),(47,(aD K)),(48,(aD L))] ((6,(qf N))::(7,(iO O))::(YJ l q w z B))
abbrev E443r (l:List fM) (q:List cW):=eD Q2 (dT 10000 (.box 297 [(eW l),(er q),(.row 20001),(.row 20002),(.row 20003)]) (dI 20001 (iR 3 1 (dW .i64)) (dI 20002 (iR 3 1 (dW .i64)) (dJ 20003 (iR 69 1 (mF 2 cz.enc)) dZ))))
abbrev f443:=λD F l q w z B=>dec (E443r l q) (Rn 239 [(.ptr 10000 0),(aD D),(aD F)] (YJ l q w z B))
abbrev Af:=λF D l q w z B=>hx (E443r l q) 239 3 [10000,20001,20002,20003] [fQ 3,fQ 7,(8,(.cl 262 [.p 3, .p 7]))] ((3,(.box 294 [(.ptr 10000 0)]))::(7,(.box 310 [(.row 15)]))::(15,(ki F))::(5112,(ki D))::(YJ l q w z B))
abbrev E444r (l:List fM) (q:List cW):=eD Q9 (dT 10000 (.box 297 [(eW l),(er q),(.row 20001),(.row 20002),(.row 20003)]) (dI 20001 (iR 3 1 (dW .i64)) (dI 20002 (iR 3 1 (dW .i64)) (dJ 20003 (iR 69 1 (mF 2 cz.enc)) dZ))))
abbrev f444:=λD l q w z B=>dec (E444r l q) (Rn 240 [(.ptr 10000 0),(aD D)] (YJ l q w z B))
abbrev QF:=λF I K L G D l q w z B=>hx (E444r l q) 240 3 [10000,20001,20002,20003] [(1,(aD F)),fQ 2,fQ 4,fQ 5,(16,(aD I)),(17,(aD K))] ((2,(.box 294 [(.ptr 10000 0)]))::(4,(cN L))::(5,(.box 51 [(.row 14)]))::(14,(dw G))::(5080,(dw D))::(YJ l q w z B))
abbrev f469:=λl=>rn Q2 244 [(aD l)]
abbrev f68:=λl=>rn Q19 245 [(gT l)]
abbrev YD:=λl q=>hd Q19 245 2 [(0,(gT l)),(3,(aD q))] []
abbrev f478:=λl=>rn Q4 246 [(eU l)]
abbrev WR:=λl q w z=>hd Q4 246 3 [(3,(aD l)),(6,(eU q)),(7,(aD w)),(8,(aD z))] []
abbrev f479:=λl q=>rn Q4 247 [(gj l),(gj q),(.pv (.fn 248 []))]
abbrev QN:=λl q w z B=>hd Q4 247 2 [(0,(gj l)),(1,(gj q)),(2,(.pv (.fn 248 []))),(11,(gj w)),(12,(aD z)),(13,(aD B))] []
abbrev f482:=λl q=>rn Q4 248 [(Wu l),(Wu q)]
abbrev f166:=λl=>rn Q2 249 [(Yj l)]
abbrev f167:=λl=>rn Q2 250 [(Yj l)]
abbrev f536:=λw l z q=>rn Q10 251 [(bN w),(gq l),(eU z),(gq q)]
abbrev f537:=λq l w z=>rn Q10 252 [(bN q),(gq l),(eU w),(eU z)]
abbrev f336:=λw l q=>rn Q20 253 [(bN w),(aD l),(aD q)]
abbrev E486r (l:List fM) (q:List cW):=eD Q2 (dT 10000 (.box 294 [(.ptr 10002 0)]) (dT 10001 (.box 310 [(.row 20003)]) (dT 10002 (.box 297 [(eW l),(er q),(.row 20004),(.row 20005),(.row 20006)]) (dI 20003 (iR 309 2 dD.enc) (dI 20004 (iR 3 1 (dW .i64)) (dI 20005 (iR 3 1 (dW .i64)) (dJ 20006 (iR 69 1 (mF 2 cz.enc)) dZ)))))))
abbrev f486:=λF G l q w z B D=>dec (E486r l q) (Rn 262 [(aD F),(aD G),(.ptr 10000 0),(.ptr 10001 0)] (tl6 l q w z B D))
abbrev n9:=λI K G F l q w z B D=>hx (E486r l q) 262 8 [10000,10001,10002,20003,20004,20005,20006] [(0,(aD I)),(2,(.ptr 10000 0)),(3,(.ptr 10001 0)),(9,(gj K)),(10,(gj G)),yU 11] ((11,(iO F))::(tl6 l q w z B D))
abbrev E485r (l:List fM) (q:List cW):=eD Q4 (dT 10000 (.box 297 [(eW l),(er q),(.row 20001),(.row 20002),(.row 20003)]) (dI 20001 (iR 3 1 (dW .i64)) (dI 20002 (iR 3 1 (dW .i64)) (dJ 20003 (iR 69 1 (mF 2 cz.enc)) dZ))))
abbrev f485:=λD l q w z B=>dec (E485r l q) (Rn 263 [(.ptr 10000 0),(aD D)] (YJ l q w z B))
abbrev LC:=λD l q w z B=>hx (E485r l q) 263 1 [10000,20001,20002,20003] [(0,(.ptr 10000 0)),(1,(aD D))] (YJ l q w z B)
abbrev E487r (l:List fM) (q:List cW):=eD Q4 (dT 10000 (.box 294 [(.ptr 10004 0)]) (dT 10001 (.box 51 [(.row 20005)]) (dT 10002 (.box 30 [(.row 20006)]) (dT 10003 (.box 311 [(.cl 264 [.p 10000, .p 10001, .p 10002, .p 10003])]) (dT 10004 (.box 297 [(eW l),(er q),(.row 20007),(.row 20008),(.row 20009)]) (dI 20005 (iR 3 1 (dW .i64)) (dI 20006 (iR 71 2 Node.enc) (dI 20007 (iR 3 1 (dW .i64)) (dI 20008 (iR 3 1 (dW .i64)) (dJ 20009 (iR 69 1 (mF 2 cz.enc)) dZ))))))))))
abbrev f487:=λG l q w z B D F=>dec (E487r l q) (Rn 264 [(aD G),(.ptr 10000 0),(.ptr 10001 0),(.ptr 10002 0),(.ptr 10003 0)] (tl4 l q w z B D F))
abbrev QO:=λN G I K L l q w z B D F=>hx (E487r l q) 264 9 [10000,10001,10002,10003,10004,20005,20006,20007,20008,20009] [(3,(.ptr 10002 0)),(4,(.ptr 10003 0)),(7,(aD N)),yU 8,(49,(gj G)),(50,(aD I)),(51,(aD K))] ((8,(iO L))::(tl4 l q w z B D F))
abbrev f440:=λw l q=>rn Q10 275 [(bN w),(gq l),(gq q)]
abbrev f544:=λl q=>rn Q9 276 [(eU l),(eU q)]
abbrev f354:=λq l=>rn Q20 277 [(bN q),(gT l)]
abbrev Qh:=λl q w=>hd Q20 277 2 [(1,(gT l)),fQ 2,(6,(aD q))] [(2,(cr w))]
abbrev f448:=λl q=>rn Q32 310 [(c4 l),(c4 q)]
abbrev Ls:=λl q w z=>hd Q32 310 3 [(0,(c4 l)),(1,(c4 q)),(5,(.row 9)),(6,(aD w))] [(9,(dR z))]
abbrev QG:=λz B D F w G l q=>hd Q32 310 7 [(0,(c4 z)),(1,(c4 B)),(5,(.row 9)),(6,(aD D)),fQ 7,(8,(aD F))] [(7,(.box 71 [(aD w),(.row 5369)])),(9,(dR G)),(5113,(iO l)),(5369,(iO q))]
abbrev f451:=λq l=>rn Q16 311 [(c4 q),(eU l)]
abbrev Lv:=λz D w B l q=>hd Q16 311 5 [(0,(c4 z)),(1,(eU D)),(5,(.row 20)),(6,(.row 23)),yU 7,(8,(aD w))] [(7,(ki B)),(20,(dw l)),(23,(n4 q))]
abbrev tL:=λw z l q=>hd Q16 311 11 [(5,(.row 20)),(6,(.row 23)),yU 7,(9,(aD w))] [(7,(ki z)),(20,(dw l)),(23,(n4 q))]
abbrev Ag:=λD q l w F z B=>hd Q16 311 17 [(5,(.row 20)),(6,(.row 23)),yU 7,(9,(aD D)),(10,(aD q)),(11,(aD l)),(12,(aD w))] [(7,(ki F)),(20,(dw z)),(23,(n4 B))]
abbrev Fw:=λF q l z G B D w=>hd Q16 311 23 [(5,(.row 20)),(6,(.row 23)),yU 7,(9,(aD F)),(10,(aD q)),(11,(aD l)),(13,(.row 112)),(14,(aD z))] [(7,(ki G)),(20,(dw B)),(23,(n4 D)),(112,(iO w))]
abbrev f450:=λl q w=>rn Q16 312 [(eU l),(aD q),(aD w)]
abbrev Lu:=λq l w ZP=>hd Q16 312 5 [(7,(aD q)),(8,(aD l)),(9,(.row 29)),(10,(aD w))] [(29,(dw ZP))]
abbrev f449:=λl=>rn Q22 313 [(aD l)]
abbrev QH:=λq l w=>hd Q22 313 3 [(0,(aD q)),yU 3,(4,(aD l))] [(3,(dw w))]
abbrev f452:=λq w l=>rn Q11 314 [(bN q),(c4 w),(eU l)]
abbrev B8:=λw B q z l=>hd Q11 314 3 [(1,(c4 w)),(2,(eU B)),fQ 3,(8,(.row 15)),(9,(aD q))] [(3,(cr z)),(15,(dw l))]
abbrev Fx:=λw z l q=>hd Q11 314 10 [(1,(c4 w)),(2,(eU z)),(8,(.row 15)),(12,(aD l))] [(15,(dw q))]
abbrev f453:=λz w l q=>rn Q9 315 [(c4 z),(eU w),(eU l),(aD q)]
abbrev Fy:=λD G q z B F w l=>hd Q9 315 3 [(0,(c4 D)),(1,(eU G)),(2,(eU q)),(3,(aD z)),fQ 8,fQ 9,(10,(aD B))] (tl9 F w l)
abbrev CB:=λB F w z D q l=>hd Q9 315 7 [(0,(c4 B)),(1,(eU F)),(3,(aD w)),fQ 8,fQ 9,(11,(aD z))] (tl9 D q l)
abbrev B9:=λF I w B z D G q l=>hd Q9 315 11 [(0,(c4 F)),(1,(eU I)),(3,(aD w)),fQ 8,fQ 9,(11,(aD B)),(12,(aD z)),(13,(aD D))] (tl9 G q l)
abbrev f553:=λw (q:List Node) (l:List (Option (List cz)))=>dec (HT) (Rn 316 [(.ag [.r 9000]),(eU w)] [(9000,(.rn 71 2 1 68 2 (List.map (ko Node.enc 1) q) (qh cz.enc l)))])
abbrev Am:=λD z w B (q:List Node) (l:List (Option (List cz)))=>hx (HT) 316 3 [] [(1,(eU D)),fQ 2,fQ 4,(6,(aD z)),(7,(aD w))] [(2,(.box 30 [(.row 9000)])),(4,(cN B)),(9000,(.rn 71 2 1 68 2 (List.map (ko Node.enc 1) q) (qh cz.enc l)))]
abbrev f491:=λq l=>rn Q20 348 [(gj q),(aD l)]
abbrev QS:=λw l q=>hd Q20 348 2 [(0,(gj w)),(1,(aD l)),(6,(aD q))] []
end
