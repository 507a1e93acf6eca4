/- The functions and loops as plain ones, by program (decomp4.p. -/
import Derived.Test.YthppjmoncapdfaaGreatDoorClT
set_option linter.all false
set_option maxRecDepth 100000
namespace Go.Proofs.YthppjmoncapdfaaGreatDoor.cl
noncomputable section
open Go Go.AM
abbrev f392:=λl=>rn Q0 3 [(me l)]
abbrev f398:=λl=>rn Q0 9 [(me l)]
abbrev Cy:=λl q=>hd Q0 9 4 [mO 1,(3,(aH l))] [(1,(dN q))]
abbrev FO:=λl q w=>hd Q0 9 9 [mO 1,(3,(aH l)),(4,(aH q))] [(1,(dN w))]
abbrev f399:=rn Q0 10 []
abbrev f402:=λl q=>rn Q0 11 [(Fc l),(Fc q)]
abbrev FV:=λl q w=>hd Q0 11 4 [(0,(Fc l)),(1,(Fc q)),(5,(aH w))] []
abbrev f400:=λl=>rn Q1 12 [(me l)]
abbrev FP:=λl q w z B=>hd Q1 12 3 [mO 1,I5 3,(12,(vR l)),(13,(aH q)),(14,(aH w))] [(1,(dN z)),(3,(vT B))]
abbrev FQ:=λl q w z B=>hd Q1 12 9 [I5 3,mO 6,(36,(Ai l)),(37,(aH q)),(38,(aH w))] [(3,(vT z)),(6,(qw B))]
abbrev f401:=λl=>rn Q1 13 [(me l)]
abbrev FR:=λl q w z=>hd Q1 13 4 [mO 1,I5 3,(4,(vR l)),(5,(aH q))] [(1,(dN w)),(3,(vT z))]
abbrev FU:=λq l w=>hd Q1 13 9 [I5 3,(6,(Ai q)),(7,(aH l))] [(3,(vT w))]
abbrev f407:=λl q=>rn Q0 16 [(me l),(me q)]
abbrev f409:=λl=>rn Q4 22 [(me l)]
abbrev Cz:=λl q w z=>hd Q4 22 4 [mO 1,(3,(vR l)),I5 4,(5,(aH q))] [(1,(dN w)),(4,(nM z))]
abbrev CA:=λl z w q B D=>hd Q4 22 8 [mO 1,(3,(vR l)),I5 4,(5,(aH z)),(6,(gL w)),(7,(aH q))] [(1,(dN B)),(4,(nM D))]
abbrev f413:=λl=>rn Q0 26 [(me l)]
abbrev FW:=λl q=>hd Q0 26 4 [mO 1,(3,(aH l))] [(1,(dN q))]
abbrev f421:=λl=>rn Q10 27 [(me l)]
abbrev f414:=λl=>rn Q3 28 [(aH l)]
abbrev f415:=λl=>rn Q6 29 [(me l)]
abbrev f426:=λl f1=>rn Q3 30 [(fJ l),(me f1)]
abbrev FZ:=λF q w z B D l=>hd Q3 30 3 [(0,(fJ F)),mO 3,mO 4,mO 5,(13,(fJ q)),(14,(aH w)),(15,(aH z))] (tl7 B D l)
abbrev KY:=λF q w z B D l=>hd Q3 30 8 [(0,(fJ F)),mO 4,mO 5,(33,(iF q)),(34,(aH w)),(35,(aH z))] (tl7 B D l)
abbrev FY:=λQ B D F G I K L N O l q w z=>hd Q3 30 12 [(0,(fJ Q)),mO 4,mO 5,mO 10,(33,(iF B)),(34,(aH D)),(35,(aH F)),(43,(gL G)),(44,(aH I)),(45,(aH K))] [(3,(dN L)),(4,(dN N)),(5,(.box 24 [(.row 5080)])),(9,(r8 O)),(10,(.box 52 [(aH l),(.row 5657)])),(5080,(jr q)),(5161,(jv w)),(5657,(jv z))]
abbrev f425:=λl=>rn Q3 31 [(aH l)]
abbrev f428:=λl=>rn Q2 32 [(aH l)]
abbrev F4:=λF G D B l q w z=>hd Q2 32 3 [mO 2,mO 3,(8,(aH F)),(9,(aH G))] [(2,(qw D)),(3,(.box 90 [(ps_ B),(.row 5113),(.row 5114)])),(5049,(fH l)),(5050,(uB q)),(5113,(fH w)),(5114,(uB z))]
abbrev f427:=λl=>rn Q5 33 [(me l)]
abbrev CC:=λw B l q z=>hd Q5 33 3 [(3,(aH w)),(9,(iF B)),(10,(aH l)),(11,(aH q))] [(1,(dN z))]
abbrev F1:=λD I l q w z B F G=>hd Q5 33 6 [(3,(aH D)),(9,(iF I)),(10,(aH l)),(11,(aH q)),(16,(gL w)),(17,(aH z)),(18,(aH B))] [(1,(dN F)),(5,(r8 G))]
abbrev f429:=λl=>rn Q4 34 [(me l)]
abbrev CD:=λl q w z B D=>hd Q4 34 4 [(3,(vR l)),I5 4,(13,(iF q)),(14,(aH w)),(15,(aH z))] [(1,(dN B)),(4,(nM D))]
abbrev CE:=λl G q w z B D F I K L=>hd Q4 34 7 [(3,(vR l)),I5 4,(5,(aH G)),(13,(iF q)),(14,(aH w)),(15,(aH z)),(21,(gL B)),(22,(aH D)),(23,(aH F))] [(1,(dN I)),(4,(nM K)),(6,(r8 L))]
abbrev f438:=λl f1 q w=>rn Q9 35 [(tV l),(me f1),(fJ q),(fJ w)]
abbrev f416:=λl=>rn Q6 36 [(me l)]
abbrev CB:=λz B l q w=>hd Q6 36 6 [mO 1,(3,(.row 12)),(4,(.row 16)),(5,(.row 19)),(6,(aH z))] [(1,(dN B)),(12,(Co l)),(16,(Aq q)),(19,(dn w))]
abbrev yT:=λz D B F l q w=>hd Q6 36 10 [mO 1,(3,(.row 12)),(4,(.row 16)),(5,(.row 19)),(6,(aH z)),(7,(gL D)),(8,(aH B))] [(1,(dN F)),(12,(Co l)),(16,(Aq q)),(19,(dn w))]
abbrev f430:=λl f1=>rn Q3 37 [(fJ l),(me f1)]
abbrev F6:=λB q w z l=>hd Q3 37 3 [(0,(fJ B)),mO 3,mO 4,mO 5,(6,(aH q))] (tl7 w z l)
abbrev KZ:=λB q w z l=>hd Q3 37 7 [(0,(fJ B)),mO 3,mO 4,mO 5,(7,(aH q))] (tl7 w z l)
abbrev F5:=λI B D k10 F G z l q w=>hd Q3 37 12 [(0,(fJ I)),mO 3,mO 4,mO 5,(7,(aH B)),mO 8,(9,(gL D)),(10,(aH k10))] [(3,(dN F)),(4,(dN G)),(5,(.box 24 [(.row 5080)])),(8,(.box 52 [(aH z),(.row 5705)])),(5080,(jr l)),(5129,(jv q)),(5705,(jv w))]
abbrev f439:=λl q=>rn Q3 38 [(fJ l),(fJ q)]
abbrev vW:=λw z B D (q:List Node) (l:List (Option (List bD)))=>hd Q3 38 4 [(0,(fJ w)),(1,(fJ z)),mO 4,mO 5,(6,(aH B))] [(4,(dN D)),(5,(.box 24 [(.row 5080)])),(5080,(.rn 52 2 1 54 2 (List.map (jW Node.enc 1) q) (mc bD.enc l)))]
abbrev nR:=λw z D B F (q:List Node) (l:List (Option (List bD)))=>hd Q3 38 10 [(0,(fJ w)),(1,(fJ z)),mO 4,mO 5,(7,(aH D)),(8,(aH B))] [(4,(dN F)),(5,(.box 24 [(.row 5080)])),(5080,(.rn 52 2 1 54 2 (List.map (jW Node.enc 1) q) (mc bD.enc l)))]
abbrev f418:=λl q=>rn Q5 42 [(me l),(me q)]
abbrev FX:=λq w l=>hd Q5 42 4 [(5,(fJ q)),(6,(fJ w)),(7,(aH l))] []
abbrev f445:=λl q=>rn Q0 48 [(fJ l),(fJ q)]
abbrev Gc:=λq w l=>hd Q0 48 4 [(0,(fJ q)),(1,(fJ w)),(5,(aH l))] []
abbrev f435:=λl=>rn Q5 52 [(me l)]
abbrev F8:=λl q=>hd Q5 52 6 [mO 1,(3,(aH l))] [(1,(dN q))]
abbrev f436:=λq l=>rn Q3 53 [(me q),(aH l)]
abbrev F9:=λB D F G l q w z=>hd Q3 53 3 [(1,(aH B)),mO 2,mO 4,(5,(.ptr 14 0)),(6,(aH D))] [(2,(dN F)),(4,(dN G)),(14,(.box 133 [(iF l),(.row 5209),(.row 5210)])),(5208,(jr q)),(5209,(dn w)),(5210,(dn z))]
abbrev zC:=λD F G l q w z B=>hd Q3 53 9 [mO 2,mO 4,(5,(.ptr 14 0)),mO 7,(8,(aH D))] [(2,(dN F)),(4,(dN G)),(7,(.box 24 [(.row 5112)])),(14,(.box 133 [(iF l),(.row 5209),(.row 5210)])),(5112,(jr q)),(5208,(jr w)),(5209,(dn z)),(5210,(dn B))]
abbrev yU:=λG D I K L l F q w z B=>hd Q3 53 14 [mO 2,mO 4,(5,(.ptr 14 0)),mO 7,(8,(aH G)),mO 9,(10,(.row 56)),(11,(aH D))] [(2,(dN I)),(4,(dN K)),(7,(.box 24 [(.row 5112)])),(9,(r8 L)),(14,(.box 133 [(iF l),(.row 5209),(.row 5210)])),(56,(jv F)),(5112,(jr q)),(5208,(jr w)),(5209,(dn z)),(5210,(dn B))]
abbrev f447:=λl=>rn Q20 55 [(aH l)]
abbrev f331:=λl=>rn Q7 56 [(bT l)]
abbrev FG:=λl q G I K L F w z B D=>hd Q7 56 12 [mO 2,(6,(Fe l)),(7,(eL q)),mO 8,(40,(eL G)),(41,(aH I)),(42,(aH K))] [(2,(qw L)),(8,(.box 34 [(.row 5624),(ig F)])),(5128,(wO w)),(5129,(pO z)),(5624,(wO B)),(5625,(pO D))]
abbrev f460:=λl=>rn Q24 57 [(fJ l)]
abbrev f484:=λl q=>rn Q0 58 [(fJ l),(fJ q)]
abbrev Gf:=λl q w z=>hd Q0 58 4 [(0,(fJ l)),(1,(fJ q)),(12,(aH w)),(13,(aH z))] []
abbrev NH (l:List gA) (q:List dg):=eD Q18 (dT 10000 (.box 98 [(lK l),(ig q),(.row 20001),(.row 20002),(.row 20003)]) (dI 20001 (iR 3 1 (bU .i64)) (dI 20002 (iR 3 1 (bU .i64)) (dJ 20003 (iR 50 1 (gI 2 bD.enc)) dZ))))
abbrev f442:=λD l q w z B=>dec (NH l q) (Rn 59 [(.ptr 10000 0),(iF D)] (Sh l q w z B))
abbrev CG:=λI D F G l q w z B=>hx (NH l q) 59 2 [10000,20001,20002,20003] [(0,(.ptr 10000 0)),(4,(aH I)),(15,(iF D)),(16,(aH F)),(17,(aH G))] (Sh l q w z B)
abbrev Ga:=λQ D F G I K L N O l q w z B=>hx (NH l q) 59 8 [10000,20001,20002,20003] [(0,(.ptr 10000 0)),(4,(aH Q)),I5 7,(15,(iF D)),(16,(aH F)),(17,(aH G)),(46,(gL I)),(47,(aH K)),(48,(aH L))] ((6,(r8 N))::(7,(jv O))::(Sh l q w z B))
abbrev Sv (l:List gA) (q:List dg):=eD Q0 (dT 10000 (.box 98 [(lK l),(ig q),(.row 20001),(.row 20002),(.row 20003)]) (dI 20001 (iR 3 1 (bU .i64)) (dI 20002 (iR 3 1 (bU .i64)) (dJ 20003 (iR 50 1 (gI 2 bD.enc)) dZ))))
abbrev f443:=λD F l q w z B=>dec (Sv l q) (Rn 60 [(.ptr 10000 0),(aH D),(aH F)] (Sh l q w z B))
abbrev ue:=λF D l q w z B=>hx (Sv l q) 60 3 [10000,20001,20002,20003] [mO 3,mO 7,(8,(.cl 88 [.p 3, .p 7]))] ((3,(.box 95 [(.ptr 10000 0)]))::(7,(.box 138 [(.row 15)]))::(15,(pN F))::(5112,(pN D))::(Sh l q w z B))
abbrev Sw (l:List gA) (q:List dg):=eD Q3 (dT 10000 (.box 98 [(lK l),(ig q),(.row 20001),(.row 20002),(.row 20003)]) (dI 20001 (iR 3 1 (bU .i64)) (dI 20002 (iR 3 1 (bU .i64)) (dJ 20003 (iR 50 1 (gI 2 bD.enc)) dZ))))
abbrev f444:=λD l q w z B=>dec (Sw l q) (Rn 61 [(.ptr 10000 0),(aH D)] (Sh l q w z B))
abbrev Gb:=λF I K L G D l q w z B=>hx (Sw l q) 61 3 [10000,20001,20002,20003] [(1,(aH F)),mO 2,mO 4,mO 5,(16,(aH I)),(17,(aH K))] ((2,(.box 95 [(.ptr 10000 0)]))::(4,(dN L))::(5,(.box 60 [(.row 14)]))::(14,(dn G))::(5080,(dn D))::(Sh l q w z B))
abbrev f468:=λq l=>rn Q5 62 [(gL q),(aH l)]
abbrev Gd:=λw l q=>hd Q5 62 2 [(0,(gL w)),(1,(aH l)),(5,(aH q))] []
abbrev f432:=λl=>rn Q15 70 [(me l)]
abbrev CF:=λq w l=>hd Q15 70 3 [mO 1,(3,(.row 10)),(4,(aH q))] [(1,(dN w)),(10,(dn l))]
abbrev F7:=λq z w B l=>hd Q15 70 8 [mO 1,(3,(.row 10)),(4,(aH q)),(5,(gL z)),(6,(aH w))] [(1,(dN B)),(10,(dn l))]
abbrev f63:=λl q=>rn Q0 78 [(Ie l),(Ie q)]
abbrev f454:=λl q=>rn Q5 79 [(gL l),(aH q)]
abbrev CH:=λq w l=>hd Q5 79 2 [(0,(gL q)),(1,(aH w)),(5,(aH l))] []
abbrev CI:=λw z l q=>hd Q5 79 7 [(0,(gL w)),(1,(aH z)),(5,(aH l)),(6,(aH q))] []
abbrev Sx (l:List Node):=eD Q18 (dT 10000 (.box 133 [(iF l),(.row 20001),(.row 20002)]) (dI 20001 (iR 3 1 (bU .i64)) (dJ 20002 (iR 3 1 (bU .i64)) dZ)))
abbrev f455:=λz l q w=>dec (Sx l) (Rn 80 [(.ptr 10000 0),(aH z)] [(10000,(.box 133 [(iF l),(.row 20001),(.row 20002)])),(20001,(dn q)),(20002,(dn w))])
abbrev CJ:=λB z l q w=>hx (Sx l) 80 4 [10000,20001,20002] [(0,(.ptr 10000 0)),(4,(gL B)),(5,(aH z))] [(10000,(.box 133 [(iF l),(.row 20001),(.row 20002)])),(20001,(dn q)),(20002,(dn w))]
abbrev f463:=λl=>rn Q28 81 [(gL l)]
abbrev uf:=λq l w=>hd Q28 81 3 [(0,(gL q)),I5 3,(4,(aH l))] [(3,(jv w))]
abbrev A7:=λq l z w=>hd Q28 81 6 [(0,(gL q)),I5 3,(4,(aH l)),(5,(aH z))] [(3,(jv w))]
abbrev f459:=λl=>rn Q20 83 [(aH l)]
abbrev f319:=λl=>rn Q17 84 [(bT l)]
abbrev FF:=λ(t4:Option table) l q w z=>hd Q17 84 6 [(4,(.pv (JK table.enc t4))),I5 6,(20,(Qo l)),(21,(aH q)),(22,(aH w))] [(6,(pO z))]
abbrev f322:=λl=>rn Q12 85 [(bT l)]
abbrev f14:=λl=>rn Q13 86 [(bT l)]
abbrev f27:=λq l=>rn Q15 87 [(eL q),(aH l)]
abbrev Sz (l:List gA) (q:List dg):=eD Q0 (dT 10000 (.box 95 [(.ptr 10002 0)]) (dT 10001 (.box 138 [(.row 20003)]) (dT 10002 (.box 98 [(lK l),(ig q),(.row 20004),(.row 20005),(.row 20006)]) (dI 20003 (iR 137 2 di.enc) (dI 20004 (iR 3 1 (bU .i64)) (dI 20005 (iR 3 1 (bU .i64)) (dJ 20006 (iR 50 1 (gI 2 bD.enc)) dZ)))))))
abbrev f486:=λF G l q w z B D=>dec (Sz l q) (Rn 88 [(aH F),(aH G),(.ptr 10000 0),(.ptr 10001 0)] (tl6 l q w z B D))
abbrev kg:=λI K G F l q w z B D=>hx (Sz l q) 88 8 [10000,10001,10002,20003,20004,20005,20006] [(0,(aH I)),(2,(.ptr 10000 0)),(3,(.ptr 10001 0)),(9,(gL K)),(10,(gL G)),I5 11] ((11,(jv F))::(tl6 l q w z B D))
abbrev f335:=λw l q=>rn Q19 89 [(tV w),(aH l),(aH q)]
abbrev Sy (l:List gA) (q:List dg):=eD Q5 (dT 10000 (.box 98 [(lK l),(ig q),(.row 20001),(.row 20002),(.row 20003)]) (dI 20001 (iR 3 1 (bU .i64)) (dI 20002 (iR 3 1 (bU .i64)) (dJ 20003 (iR 50 1 (gI 2 bD.enc)) dZ))))
abbrev f485:=λD l q w z B=>dec (Sy l q) (Rn 90 [(.ptr 10000 0),(aH D)] (Sh l q w z B))
abbrev CK:=λD l q w z B=>hx (Sy l q) 90 1 [10000,20001,20002,20003] [(0,(.ptr 10000 0)),(1,(aH D))] (Sh l q w z B)
abbrev SA (l:List gA) (q:List dg):=eD Q5 (dT 10000 (.box 95 [(.ptr 10004 0)]) (dT 10001 (.box 60 [(.row 20005)]) (dT 10002 (.box 24 [(.row 20006)]) (dT 10003 (.box 139 [(.cl 91 [.p 10000, .p 10001, .p 10002, .p 10003])]) (dT 10004 (.box 98 [(lK l),(ig q),(.row 20007),(.row 20008),(.row 20009)]) (dI 20005 (iR 3 1 (bU .i64)) (dI 20006 (iR 52 2 Node.enc) (dI 20007 (iR 3 1 (bU .i64)) (dI 20008 (iR 3 1 (bU .i64)) (dJ 20009 (iR 50 1 (gI 2 bD.enc)) dZ))))))))))
abbrev f487:=λG l q w z B D F=>dec (SA l q) (Rn 91 [(aH G),(.ptr 10000 0),(.ptr 10001 0),(.ptr 10002 0),(.ptr 10003 0)] (tl5 l q w z B D F))
abbrev Gg:=λN G I K L l q w z B D F=>hx (SA l q) 91 9 [10000,10001,10002,10003,10004,20005,20006,20007,20008,20009] [(3,(.ptr 10002 0)),(4,(.ptr 10003 0)),(7,(aH N)),I5 8,(49,(gL G)),(50,(aH I)),(51,(aH K))] ((8,(jv L))::(tl5 l q w z B D F))
abbrev f344:=λl=>rn Q29 120 [(bT l)]
abbrev KW:=λl K L N I q w z B D F G=>hd Q29 120 6 [(4,(eL l)),(6,(.ptr 23 0)),(24,(bT K)),(25,(aH L)),(26,(aH N))] [(21,(fI I)),(23,(.box 171 [(bT q),(eL w),(.row 21),(.row 5355),(.row 5356),(.row 5357)])),(5352,(AP z)),(5353,(Dm B)),(5355,(fH D)),(5356,(dn F)),(5357,(de G))]
abbrev f24:=λw l q=>rn Q0 136 [(eL w),(aH l),(aH q)]
abbrev Vw (l:Int) (q:List cZ) (w:List gz) (z:List ((List UInt8)×Int)) (B:List (List UInt8)) (D:List Int) (F:List (List dB)):=eZ Q0 (dS 10000 (.box 166 [(.ptr 10002 0)]) (dS 10001 (.box 3 [(aH l)]) (dS 10002 (.box 171 [(bT q),(eL w),(.row 10003),(.row 10004),(.row 10005),(.row 10006)]) (dS 10003 (fI z) (dS 10004 (fH B) (dS 10005 (dn D) (dS 10006 (de F) dZ)))))))
abbrev TU:=λG l q w z B D F=>dec (Vw l q w z B D F) (Rn 138 [(fJ G),(.cl 226 [.p 10000, .p 10001])] ((10000,(.box 166 [(.ptr 10002 0)]))::(10001,(.box 3 [(aH l)]))::(UZ q w z B D F)))
abbrev f29:=λl q=>rn Q21 139 [(Ie l),(Ie q)]
abbrev f336:=λw l q=>rn Q19 162 [(tV w),(aH l),(aH q)]
abbrev f366:=λq (l:cZ)=>rn Q5 171 [(eL q),(.pv (.fn 172 [(.ref (cZ.enc l))]))]
abbrev uE (l:List cZ) (q:List gz):=eD Q5 (dT 10000 (.box 171 [(bT l),(eL q),(.row 10001),(.row 20002),(.row 20003),(.row 20004)]) (dI 10001 (iM 9 3 V9 V3) (dI 20002 (iR 9 1 iP) (dI 20003 (iR 3 1 (bU .i64)) (dJ 20004 (iR 114 1 (gI 2 dB.enc)) dZ)))))
abbrev f367:=λl q w z B D=>dec (uE l q) (Rn 173 [(.ptr 10000 0)] (QY l q w z B D))
abbrev FH:=λG I K F l q w z B D=>hx (uE l q) 173 3 [10000,10001,20002,20003,20004] [(0,(.ptr 10000 0)),(3,(.row 15)),(19,(bT G)),(20,(aH I)),(21,(aH K))] ((15,(rB F))::(QY l q w z B D))
abbrev FI:=λG I K L N O Q F l q w z B D=>hx (uE l q) 173 6 [10000,10001,20002,20003,20004] [(0,(.ptr 10000 0)),(3,(.row 15)),(19,(bT G)),(20,(aH I)),(21,(aH K)),(26,(gU L)),(27,(aH N)),(28,(aH O))] ((5,(rN Q))::(15,(rB F))::(QY l q w z B D))
abbrev A4:=λG I K F l q w z B D=>hx (uE l q) 173 14 [10000,10001,20002,20003,20004] [(0,(.ptr 10000 0)),(3,(.row 15)),(43,(bT G)),(44,(aH I)),(45,(aH K))] ((15,(rB F))::(QY l q w z B D))
abbrev A5:=λG I K L N O Q F l q w z B D=>hx (uE l q) 173 17 [10000,10001,20002,20003,20004] [(0,(.ptr 10000 0)),(3,(.row 15)),mO 9,(43,(bT G)),(44,(aH I)),(45,(aH K)),(50,(gU L)),(51,(aH N)),(52,(aH O))] ((9,(rN Q))::(15,(rB F))::(QY l q w z B D))
abbrev f368:=λl q w z B D=>dec (uE l q) (Rn 174 [(.ptr 10000 0)] (QY l q w z B D))
abbrev FJ:=λF G l q w z B D=>hx (uE l q) 174 2 [10000,10001,20002,20003,20004] [mO 1,(10,(.row 20002)),(11,(aH F)),(12,(aH G))] ((1,(.box 166 [(.ptr 10000 0)]))::(QY l q w z B D))
abbrev f369:=λl q w z B D=>dec (uE l q) (Rn 175 [(.ptr 10000 0)] (QY l q w z B D))
abbrev KX:=λF G l q w z B D=>hx (uE l q) 175 2 [10000,10001,20002,20003,20004] [(0,(.ptr 10000 0)),(15,(aH F)),(16,(aH G))] (QY l q w z B D)
abbrev Cw:=λ(w:List ((List UInt8)×(List Int))) G I K L N l q z B D F=>hx (uE l q) 175 7 [10000,10001,20002,20003,20004] [(0,(.ptr 10000 0)),I5 4,(5,(.pv (.mp (cw V9 Gw w).1 (cw V9 Gw w).2))),(15,(aH G)),(16,(aH I)),(25,(.row 20002)),(26,(aH K)),(27,(aH L))] ((4,(Cn N))::(QY l q z B D F))
abbrev Sn (l:List Int) (q:List cZ) (w:List gz) (z:List ((List UInt8)×Int)) (B:List (List UInt8)) (D:List Int) (F:List (List dB)):=eZ Q5 (dS 10000 (.box 60 [(fJ l)]) (dS 10001 (.box 166 [(.ptr 10002 0)]) (dS 10002 (.box 171 [(bT q),(eL w),(.row 10003),(.row 10004),(.row 10005),(.row 10006)]) (dS 10003 (fI z) (dS 10004 (fH B) (dS 10005 (dn D) (dS 10006 (de F) dZ)))))))
abbrev Gu (l:Int) (q:List cZ) (w:List gz) (z:List ((List UInt8)×Int)) (B:List (List UInt8)) (D:List Int) (F:List (List dB)):=eZ Q5 (dS 10000 (.box 166 [(.ptr 10002 0)]) (dS 10001 (.box 3 [(aH l)]) (dS 10002 (.box 171 [(bT q),(eL w),(.row 10003),(.row 10004),(.row 10005),(.row 10006)]) (dS 10003 (fI z) (dS 10004 (fH B) (dS 10005 (dn D) (dS 10006 (de F) dZ)))))))
abbrev Ox:=λG l q w z B D F=>dec (Sn l q w z B D F) (Rn 201 [(fJ G),(.cl 225 [.p 10000, .p 10001])] ((10000,(.box 60 [(fJ l)]))::(10001,(.box 166 [(.ptr 10002 0)]))::(UZ q w z B D F)))
abbrev Oy:=λG l q w z B D F=>dec (Gu l q w z B D F) (Rn 201 [(fJ G),(.cl 226 [.p 10000, .p 10001])] ((10000,(.box 166 [(.ptr 10002 0)]))::(10001,(.box 3 [(aH l)]))::(UZ q w z B D F)))
abbrev FD:=λG I K l q w z B D F=>hx (Sn l q w z B D F) 201 2 [10000,10001,10002,10003,10004,10005,10006] [(0,(fJ G)),(1,(.cl 225 [.p 10000, .p 10001])),(7,(aH I)),(8,(aH K))] ((10000,(.box 60 [(fJ l)]))::(10001,(.box 166 [(.ptr 10002 0)]))::(UZ q w z B D F))
abbrev FE:=λG I K l q w z B D F=>hx (Gu l q w z B D F) 201 2 [10000,10001,10002,10003,10004,10005,10006] [(0,(fJ G)),(1,(.cl 226 [.p 10000, .p 10001])),(7,(aH I)),(8,(aH K))] ((10000,(.box 166 [(.ptr 10002 0)]))::(10001,(.box 3 [(aH l)]))::(UZ q w z B D F))
abbrev f380:=λl=>rn Q0 221 [(ps_ l)]
abbrev Sr (l:bR):=eZ Q0 (dS 10000 (kz l) dZ)
abbrev f381:=λq l=>dec (Sr l) (Rn 222 [(gU q),(.cl 223 [.p 10000])] [(10000,(kz l))])
abbrev Oz:=λq (l:List UInt8)=>rn Q0 222 [(gU q),(.pv (.fn 263 [(.ref [(.str l)])]))]
abbrev f388:=λq l=>dec (Sr l) (Rn 223 [(vg q),(.ptr 10000 0)] [(10000,(kz l))])
abbrev Sq (l:List cZ) (q:List gz) (w:List ((List UInt8)×Int)) (z:List (List UInt8)) (B:List Int) (D:List (List dB)):=eZ Q15 (dS 10000 (.box 171 [(bT l),(eL q),(.row 10001),(.row 10002),(.row 10003),(.row 10004)]) (dS 10001 (fI w) (dS 10002 (fH z) (dS 10003 (dn B) (dS 10004 (de D) dZ)))))
abbrev f376:=λF l q w z B D=>dec (Sq l q w z B D) (Rn 224 [(.ptr 10000 0),(ps_ F)] (Vt l q w z B D))
abbrev Cx:=λ(F:List UInt8) G I K L l q w z B D=>hx (Sq l q w z B D) 224 3 [10000,10001,10002,10003,10004] [(0,(.ptr 10000 0)),(3,(.cp [(.str F)])),I5 5,(11,(bT G)),(12,(aH I)),(13,(aH K))] ((5,(dn L))::(Vt l q w z B D))
abbrev Vu (l:List Int) (q:List cZ) (w:List gz) (z:List ((List UInt8)×Int)) (B:List (List UInt8)) (D:List Int) (F:List (List dB)):=eZ Q0 (dS 10000 (.box 60 [(fJ l)]) (dS 10001 (.box 166 [(.ptr 10002 0)]) (dS 10002 (.box 171 [(bT q),(eL w),(.row 10003),(.row 10004),(.row 10005),(.row 10006)]) (dS 10003 (fI z) (dS 10004 (fH B) (dS 10005 (dn D) (dS 10006 (de F) dZ)))))))
abbrev f382:=λG l q w z B D F=>dec (Vu l q w z B D F) (Rn 225 [(aH G),(.ptr 10000 0),(.ptr 10001 0)] ((10000,(.box 60 [(fJ l)]))::(10001,(.box 166 [(.ptr 10002 0)]))::(UZ q w z B D F)))
abbrev f390:=λG l q w z B D F=>dec (Vw l q w z B D F) (Rn 226 [(aH G),(.ptr 10000 0),(.ptr 10001 0)] ((10000,(.box 166 [(.ptr 10002 0)]))::(10001,(.box 3 [(aH l)]))::(UZ q w z B D F)))
abbrev NG (l:List cZ) (q:List gz) (w:List ((List UInt8)×Int)) (z:List (List UInt8)) (B:List Int) (D:List (List dB)):=eZ Q36 (dS 10000 (.box 171 [(bT l),(eL q),(.row 10001),(.row 10002),(.row 10003),(.row 10004)]) (dS 10001 (fI w) (dS 10002 (fH z) (dS 10003 (dn B) (dS 10004 (de D) dZ)))))
abbrev f377:=λF l q w z B D=>dec (NG l q w z B D) (Rn 227 [(.ptr 10000 0),(aH F)] (Vt l q w z B D))
abbrev FK:=λL G I K F l q w z B D=>hx (NG l q w z B D) 227 4 [10000,10001,10002,10003,10004] [(1,(aH L)),mO 2,mO 5,(6,(.cl 264 [.p 2, .p 5])),(16,(bT G)),(17,(aH I)),(18,(aH K))] ((2,(.box 166 [(.ptr 10000 0)]))::(5,(.box 256 [(.row 11)]))::(11,(pI F))::(Vt l q w z B D))
abbrev FM:=λQ G I K L N O R F l q w z B D=>hx (NG l q w z B D) 227 8 [10000,10001,10002,10003,10004] [(1,(aH Q)),mO 2,mO 5,(6,(.cl 264 [.p 2, .p 5])),(16,(bT G)),(17,(aH I)),(18,(aH K)),(36,(gU L)),(37,(aH N)),(38,(aH O))] ((2,(.box 166 [(.ptr 10000 0)]))::(5,(.box 256 [(.row 11)]))::(8,(rN R))::(11,(pI F))::(Vt l q w z B D))
abbrev f18:=λq l=>rn Q5 228 [(eL q),(Ie l)]
abbrev Su (l:bR):=eZ Q5 (dS 10000 (kz l) dZ)
abbrev f384:=λq l=>dec (Su l) (Rn 262 [(gU q),(.cl 223 [.p 10000])] [(10000,(kz l))])
abbrev OA:=λq (l:List UInt8)=>rn Q5 262 [(gU q),(.pv (.fn 263 [(.ref [(.str l)])]))]
abbrev FN:=λq w z l=>hx (Su l) 262 2 [10000] [(0,(gU q)),(1,(.cl 223 [.p 10000])),(7,(aH w)),(8,(aH z))] [(10000,(kz l))]
abbrev A6:=λq (l:List UInt8) w z=>hd Q5 262 2 [(0,(gU q)),(1,(.pv (.fn 263 [(.ref [(.str l)])]))),(7,(aH w)),(8,(aH z))] []
abbrev f389:=λq (l:List UInt8)=>rn Q0 263 [(vg q),(.pv (.ref [(.str l)]))]
abbrev Vv (l:List cZ) (q:List gz) (w:List ((List UInt8)×Int)) (z:List (List UInt8)) (B:List Int) (D:List (List dB)):=eD Q18 (dT 10000 (.box 166 [(.ptr 10002 0)]) (dT 10001 (.box 256 [(.row 10003)]) (dT 10002 (.box 171 [(bT l),(eL q),(.row 10004),(.row 10005),(.row 10006),(.row 10007)]) (dJ 10003 (iM 9 110 V9 Gw) (dS 10004 (fI w) (dS 10005 (fH z) (dS 10006 (dn B) (dS 10007 (de D) dZ))))))))
abbrev f385:=λG l q F w z B D=>dec (Vv l q w z B D) (Rn 264 [(vg G),(.ptr 10000 0),(.ptr 10001 0)] [(10000,(.box 166 [(.ptr 10002 0)])),(10001,(.box 256 [(.row 10003)])),(10002,(.box 171 [(bT l),(eL q),(.row 10004),(.row 10005),(.row 10006),(.row 10007)])),(10003,(pI F)),(10004,(fI w)),(10005,(fH z)),(10006,(dn B)),(10007,(de D))])
abbrev Ss (l:List cZ) (q:List gz) (w:List ((List UInt8)×Int)) (z:List (List UInt8)) (B:List Int) (D:List (List dB)):=eZ Q21 (dS 10000 (.box 171 [(bT l),(eL q),(.row 10001),(.row 10002),(.row 10003),(.row 10004)]) (dS 10001 (fI w) (dS 10002 (fH z) (dS 10003 (dn B) (dS 10004 (de D) dZ)))))
abbrev f383:=λF l q w z B D=>dec (Ss l q w z B D) (Rn 265 [(.ptr 10000 0),(ps_ F)] (Vt l q w z B D))
end
