/- The functions and loops as plain ones, by program (decomp4.p. -/
import Derived.Test.YthppjmoncapdfaaGreatDoorClT
set_option linter.all false
set_option maxRecDepth 100000
namespace Go.Proofs.YthppjmoncapdfaaGreatDoor.cl
noncomputable section
open Go Go.AM
abbrev f393:=λw q l=>rn Q0 4 [(aN w),(fT q),(kE l)]
abbrev f394:=λw q l=>rn Q0 5 [(aN w),(fT q),(kE l)]
abbrev Ou:=λl q w z B=>hd Q0 5 8 [(2,(kE l)),fM 4,fM 7,fM 8,(9,(aB q))] [(4,(bH w)),(7,(cn z)),(8,(bH B))]
abbrev f395:=λw q l=>rn Q0 6 [(aN w),(fT q),(kE l)]
abbrev Cr:=λl q w z B D F=>hd Q0 6 8 [(2,(kE l)),fM 4,fM 7,fM 8,fM 9,(10,(YL q)),(11,(aB w))] [(4,(bH z)),(7,(cn B)),(8,(bH D)),(9,(bH F))]
abbrev f397:=λw q l=>rn Q0 8 [(aN w),(fT q),(kE l)]
abbrev JQ:=λl q w z=>hd Q0 8 8 [(2,(kE l)),fM 7,fM 8,(9,(aB q))] [(7,(cn w)),(8,(bH z))]
abbrev G7:=λl z w q B D=>hd Q0 8 12 [(2,(kE l)),fM 7,fM 8,(9,(aB z)),(10,(kE w)),(11,(aB q))] [(7,(cn B)),(8,(bH D))]
abbrev f399:=rn Q0 10 []
abbrev f400:=λl=>rn Q1 12 [(fT l)]
abbrev Ov:=λl q w z B=>hd Q1 12 3 [fM 1,vO 3,(12,(AU l)),(13,(aB q)),(14,(aB w))] [(1,(bH z)),(3,(AZ B))]
abbrev Ow:=λl q w z B=>hd Q1 12 9 [vO 3,fM 6,(36,(FX l)),(37,(aB q)),(38,(aB w))] [(3,(AZ z)),(6,(cn B))]
abbrev f401:=λl=>rn Q1 13 [(fT l)]
abbrev Ox:=λl q w z=>hd Q1 13 4 [fM 1,vO 3,(4,(AU l)),(5,(aB q))] [(1,(bH w)),(3,(AZ z))]
abbrev Oy:=λq l w=>hd Q1 13 9 [vO 3,(6,(FX q)),(7,(aB l))] [(3,(AZ w))]
abbrev f403:=λl=>rn Q2 14 [(aN l)]
abbrev f404:=λw q l=>rn Q0 15 [(dD w),(fT q),(kE l)]
abbrev Oz:=λl q w=>hd Q0 15 4 [(2,(kE l)),fM 3,(7,(aB q))] [(3,(cn w))]
abbrev f407:=λl q=>rn Q0 16 [(fT l),(fT q)]
abbrev f405:=λw q l=>rn Q3 17 [(dD w),(fT q),(kE l)]
abbrev E4:=λq w z B l=>hd Q3 17 4 [fM 6,(7,(.ptr 16 0)),(8,(.cl 1000043 [.p 16])),(19,(kE q)),(20,(aB w)),(21,(aB z))] [(6,(bH B)),(16,(zF l))]
abbrev OA:=λq w z B D F G l=>hd Q3 17 8 [fM 6,(7,(.ptr 16 0)),(8,(.cl 1000043 [.p 16])),(19,(kE q)),(20,(aB w)),(21,(aB z)),(29,(kE B)),(30,(aB D)),(31,(aB F))] [(6,(bH G)),(16,(zF l))]
abbrev f406:=λw q l=>rn Q3 18 [(dD w),(fT q),(kE l)]
abbrev U0:=λl q w z B D=>hd Q3 18 3 [(2,(kE l)),fM 3,fM 6,fM 7,(8,(aB q))] [(3,(cn w)),(4,(bH z)),(6,(bH B)),(7,(bH D))]
abbrev A5:=λl q w z B D F=>hd Q3 18 3 [(2,(kE l)),fM 3,fM 6,fM 7,(8,(aB q))] [(3,(cn w)),(4,(bH z)),(6,(bH B)),(7,(bH D)),(9,(bH F))]
abbrev D8:=λl w z B D F G q=>hd Q3 18 3 [(2,(kE l)),fM 3,fM 6,fM 7,(8,(aB w))] [(3,(cn z)),(4,(bH B)),(6,(bH D)),(7,(bH F)),(9,(bH G)),(13,(bH q))]
abbrev D7:=λl w q k12 z B D F G=>hd Q3 18 10 [(2,(kE l)),fM 3,fM 6,fM 7,(8,(aB w)),(11,(kE q)),(12,(aB k12))] [(3,(cn z)),(4,(bH B)),(6,(bH D)),(7,(bH F)),(9,(bH G))]
abbrev rJ:=λl z q k12 B D F G I w=>hd Q3 18 10 [(2,(kE l)),fM 3,fM 6,fM 7,(8,(aB z)),(11,(kE q)),(12,(aB k12))] [(3,(cn B)),(4,(bH D)),(6,(bH F)),(7,(bH G)),(9,(bH I)),(13,(bH w))]
abbrev f419:=λw l q=>rn Q9 19 [(dD w),(fT l),(fT q)]
abbrev f412:=λw l q=>rn Q0 20 [(dD w),(fT l),(fT q)]
abbrev f408:=λl f1=>rn Q0 21 [(dD l),(fT f1)]
abbrev f409:=λl=>rn Q4 22 [(fT l)]
abbrev JR:=λl q w z=>hd Q4 22 4 [fM 1,(3,(AU l)),vO 4,(5,(aB q))] [(1,(bH w)),(4,(rE z))]
abbrev JS:=λl z w q B D=>hd Q4 22 8 [fM 1,(3,(AU l)),vO 4,(5,(aB z)),(6,(fh w)),(7,(aB q))] [(1,(bH B)),(4,(rE D))]
abbrev f410:=λl f1=>rn Q5 24 [(dD l),(fT f1)]
abbrev JT:=λl q w z=>hd Q5 24 5 [fM 2,fM 3,fM 5,(7,(aB l))] [(2,(cn q)),(3,(bH w)),(5,(bH z))]
abbrev G8:=λl q w z B D=>hd Q5 24 11 [fM 2,fM 3,fM 5,(7,(aB l)),fM 8,(9,(aB q))] [(2,(cn w)),(3,(bH z)),(5,(bH B)),(8,(lZ D))]
abbrev f411:=λl f1=>rn Q5 25 [(dD l),(fT f1)]
abbrev OB:=λl q w z B=>hd Q5 25 5 [fM 2,fM 3,(19,(dc l)),(20,(aB q)),(21,(aB w))] [(2,(cn z)),(3,(bH B))]
abbrev OC:=λl q w z B D F G I=>hd Q5 25 8 [fM 2,fM 3,fM 7,(19,(dc l)),(20,(aB q)),(21,(aB w)),(26,(fh z)),(27,(aB B)),(28,(aB D))] [(2,(cn F)),(3,(bH G)),(7,(lZ I))]
abbrev f413:=λl=>rn Q0 26 [(fT l)]
abbrev OD:=λl q=>hd Q0 26 4 [fM 1,(3,(aB l))] [(1,(bH q))]
abbrev f421:=λl=>rn Q10 27 [(fT l)]
abbrev f414:=λl=>rn Q3 28 [(aB l)]
abbrev f415:=λl=>rn Q6 29 [(fT l)]
abbrev f426:=λl f1=>rn Q3 30 [(ff l),(fT f1)]
abbrev OL:=λF q w z B D l=>hd Q3 30 3 [(0,(ff F)),fM 3,fM 4,fM 5,(13,(ff q)),(14,(aB w)),(15,(aB z))] (tl7 B D l)
abbrev U1:=λF q w z B D l=>hd Q3 30 8 [(0,(ff F)),fM 4,fM 5,(33,(dc q)),(34,(aB w)),(35,(aB z))] (tl7 B D l)
abbrev OJ:=λQ B D F G I K L N O l q w z=>hd Q3 30 12 [(0,(ff Q)),fM 4,fM 5,fM 10,(33,(dc B)),(34,(aB D)),(35,(aB F)),(43,(fh G)),(44,(aB I)),(45,(aB K))] [(3,(bH L)),(4,(bH N)),(5,(.box 24 [(.row 5080)])),(9,(lZ O)),(10,(.box 52 [(aB l),(.row 5657)])),(5080,(fc q)),(5161,(iq w)),(5657,(iq z))]
abbrev f425:=λl=>rn Q3 31 [(aB l)]
abbrev f428:=λl=>rn Q2 32 [(aB l)]
abbrev ON:=λF G D B l q w z=>hd Q2 32 3 [fM 2,fM 3,(8,(aB F)),(9,(aB G))] [(2,(cn D)),(3,(.box 90 [(Ch B),(.row 5113),(.row 5114)])),(5049,(dP l)),(5050,(kS q)),(5113,(dP w)),(5114,(kS z))]
abbrev f427:=λl=>rn Q5 33 [(fT l)]
abbrev JV:=λw B l q z=>hd Q5 33 3 [(3,(aB w)),(9,(dc B)),(10,(aB l)),(11,(aB q))] [(1,(bH z))]
abbrev OM:=λD I l q w z B F G=>hd Q5 33 6 [(3,(aB D)),(9,(dc I)),(10,(aB l)),(11,(aB q)),(16,(fh w)),(17,(aB z)),(18,(aB B))] [(1,(bH F)),(5,(lZ G))]
abbrev f429:=λl=>rn Q4 34 [(fT l)]
abbrev JW:=λl q w z B D=>hd Q4 34 4 [(3,(AU l)),vO 4,(13,(dc q)),(14,(aB w)),(15,(aB z))] [(1,(bH B)),(4,(rE D))]
abbrev JX:=λl G q w z B D F I K L=>hd Q4 34 7 [(3,(AU l)),vO 4,(5,(aB G)),(13,(dc q)),(14,(aB w)),(15,(aB z)),(21,(fh B)),(22,(aB D)),(23,(aB F))] [(1,(bH I)),(4,(rE K)),(6,(lZ L))]
abbrev f438:=λl f1 q w=>rn Q9 35 [(dD l),(fT f1),(ff q),(ff w)]
abbrev f416:=λl=>rn Q6 36 [(fT l)]
abbrev JU:=λw z l q Lv=>hd Q6 36 6 [fM 1,(3,(.row 12)),(4,(.row 16)),(5,(.row 19)),(6,(aB w))] [(1,(bH z)),(12,(Js l)),(16,(F7 q)),(19,(cI Lv))]
abbrev D9:=λw B z D l q Lv=>hd Q6 36 10 [fM 1,(3,(.row 12)),(4,(.row 16)),(5,(.row 19)),(6,(aB w)),(7,(fh B)),(8,(aB z))] [(1,(bH D)),(12,(Js l)),(16,(F7 q)),(19,(cI Lv))]
abbrev f430:=λl f1=>rn Q3 37 [(ff l),(fT f1)]
abbrev OP:=λB q w z l=>hd Q3 37 3 [(0,(ff B)),fM 3,fM 4,fM 5,(6,(aB q))] (tl7 w z l)
abbrev U2:=λB q w z l=>hd Q3 37 7 [(0,(ff B)),fM 3,fM 4,fM 5,(7,(aB q))] (tl7 w z l)
abbrev OO:=λI B D k10 F G z l q w=>hd Q3 37 12 [(0,(ff I)),fM 3,fM 4,fM 5,(7,(aB B)),fM 8,(9,(fh D)),(10,(aB k10))] [(3,(bH F)),(4,(bH G)),(5,(.box 24 [(.row 5080)])),(8,(.box 52 [(aB z),(.row 5705)])),(5080,(fc l)),(5129,(iq q)),(5705,(iq w))]
abbrev f439:=λl q=>rn Q3 38 [(ff l),(ff q)]
abbrev A6:=λw z B D (q:List Node) (l:List (Option (List bX)))=>hd Q3 38 4 [(0,(ff w)),(1,(ff z)),fM 4,fM 5,(6,(aB B))] [(4,(bH D)),(5,(.box 24 [(.row 5080)])),(5080,(.rn 52 2 1 54 2 (List.map (jA Node.enc 1) q) (oT bX.enc l)))]
abbrev rK:=λw z D B F (q:List Node) (l:List (Option (List bX)))=>hd Q3 38 10 [(0,(ff w)),(1,(ff z)),fM 4,fM 5,(7,(aB D)),(8,(aB B))] [(4,(bH F)),(5,(.box 24 [(.row 5080)])),(5080,(.rn 52 2 1 54 2 (List.map (jA Node.enc 1) q) (oT bX.enc l)))]
abbrev f332:=λl=>rn Q7 39 [(aN l)]
abbrev Oa:=λw F B z D l q=>hd Q7 39 7 [(0,(aN w)),fM 2,(4,(DL F)),(6,(cZ B)),fM 8,(9,(aB z))] [(2,(cn D)),(8,(.box 34 [(.row 5128),(.row 5129)])),(5128,(p8 l)),(5129,(jO q))]
abbrev f327:=rn Q8 40 []
abbrev f417:=λl f1=>rn Q5 41 [(dD l),(fT f1)]
abbrev OE:=λl q w=>hd Q5 41 5 [fM 2,fM 3,(6,(aB l))] [(2,(cn q)),(3,(bH w))]
abbrev OF:=λl w q z B=>hd Q5 41 9 [fM 2,fM 3,(6,(aB l)),(7,(fh w)),(8,(aB q))] [(2,(cn z)),(3,(bH B))]
abbrev f418:=λl q=>rn Q5 42 [(fT l),(fT q)]
abbrev OG:=λq w l=>hd Q5 42 4 [(5,(ff q)),(6,(ff w)),(7,(aB l))] []
abbrev E483r:=eD Q0 (dJ 10000 (iB 74 result.enc) dZ)
abbrev f483:=λq l=>dec (E483r) (Rn 43 [(.ptr 10000 0),(fT q)] [(10000,(zF l))])
abbrev f431:=λw l q=>rn Q9 44 [(dD w),(fT l),(fT q)]
abbrev f433:=λw l q=>rn Q9 45 [(dD w),(fT l),(fT q)]
abbrev f434:=λl f1=>rn Q9 46 [(dD l),(fT f1)]
abbrev OR:=λF G I K L N l q w z B D=>hd Q9 46 3 [fM 3,fM 4,(6,(.ptr 14 0)),(16,(dc F)),(17,(aB G)),(18,(aB I))] (tl10 K L N l q w z B D)
abbrev Cs:=λF G I K l q w z B D=>hd Q9 46 9 [fM 3,fM 4,(6,(.ptr 14 0)),(9,(aB F))] (tl10 G I K l q w z B D)
abbrev Eb:=λK L N O l q I w z B D F G=>hd Q9 46 15 [fM 4,(6,(.ptr 14 0)),fM 10,(72,(aB K)),(73,(aB L))] [(2,(cn N)),(4,(bH O)),(10,(.box 24 [(.row 68)])),(14,(.box 123 [(je l),(gX q),(.row 5210),(.row 5211)])),(68,(fc I)),(5160,(fc w)),(5208,(p8 z)),(5209,(jO B)),(5210,(cI D)),(5211,(cI F)),(6104,(fc G))]
abbrev f423:=λw l q=>rn Q11 47 [(dD w),(fT l),(fT q)]
abbrev OI:=λq w z B D l=>hd Q11 47 3 [fM 3,fM 4,fM 5,(8,(.row 20)),(22,(aB q)),(23,(aB w))] [(3,(cn z)),(4,(bH B)),(5,(bH D)),(20,(cI l))]
abbrev Ea:=λl w z B D F G q=>hd Q11 47 10 [fM 3,fM 5,(8,(.row 20)),(10,(YL l)),(33,(dc w)),(34,(aB z)),(35,(aB B))] [(3,(cn D)),(4,(bH F)),(5,(bH G)),(20,(cI q))]
abbrev uv:=λl q B D F G I K L N O w z=>hd Q11 47 16 [fM 3,fM 5,(8,(.row 20)),(10,(YL l)),(13,(aB q)),(33,(dc B)),(34,(aB D)),(35,(aB F)),(60,(fh G)),(61,(aB I)),(62,(aB K))] [(3,(cn L)),(4,(bH N)),(5,(bH O)),(12,(lZ w)),(20,(cI z))]
abbrev f445:=λl q=>rn Q0 48 [(ff l),(ff q)]
abbrev OY:=λq w l=>hd Q0 48 4 [(0,(ff q)),(1,(ff w)),(5,(aB l))] []
abbrev f422:=λl f1=>rn Q5 49 [(dD l),(fT f1)]
abbrev OH:=λl q w z B D=>hd Q5 49 5 [fM 2,fM 3,fM 5,(20,(dc l)),(21,(aB q)),(22,(aB w))] [(2,(cn z)),(3,(bH B)),(5,(bH D))]
abbrev G9:=λl q w z B D F G I K=>hd Q5 49 10 [fM 2,fM 3,fM 5,(20,(dc l)),(21,(aB q)),(22,(aB w)),(33,(fh z)),(34,(aB B)),(35,(aB D))] [(2,(cn F)),(3,(bH G)),(5,(bH I)),(8,(lZ K))]
abbrev f355:=λl t1 f2=>rn Q19 50 [(dD l),(aB t1),(aB f2)]
abbrev Og:=λf2 l q w z=>hd Q19 50 2 [(2,(aB f2)),(15,(I8 l)),(16,(aB q)),(17,(aB w))] [(3,(cn z))]
abbrev f339:=λw l q=>rn Q0 51 [(dD w),(aB l),(aB q)]
abbrev f435:=λl=>rn Q5 52 [(fT l)]
abbrev OS:=λl q=>hd Q5 52 6 [fM 1,(3,(aB l))] [(1,(bH q))]
abbrev f436:=λq l=>rn Q3 53 [(fT q),(aB l)]
abbrev OT:=λB D F G l q w z=>hd Q3 53 3 [(1,(aB B)),fM 2,fM 4,(5,(.ptr 14 0)),(6,(aB D))] [(2,(bH F)),(4,(bH G)),(14,(.box 133 [(dc l),(.row 5209),(.row 5210)])),(5208,(fc q)),(5209,(cI w)),(5210,(cI z))]
abbrev E5:=λD F G l q w z B=>hd Q3 53 9 [fM 2,fM 4,(5,(.ptr 14 0)),fM 7,(8,(aB D))] [(2,(bH F)),(4,(bH G)),(7,(.box 24 [(.row 5112)])),(14,(.box 133 [(dc l),(.row 5209),(.row 5210)])),(5112,(fc q)),(5208,(fc w)),(5209,(cI z)),(5210,(cI B))]
abbrev Ec:=λG D I K L l F q w z B=>hd Q3 53 14 [fM 2,fM 4,(5,(.ptr 14 0)),fM 7,(8,(aB G)),fM 9,(10,(.row 56)),(11,(aB D))] [(2,(bH I)),(4,(bH K)),(7,(.box 24 [(.row 5112)])),(9,(lZ L)),(14,(.box 133 [(dc l),(.row 5209),(.row 5210)])),(56,(iq F)),(5112,(fc q)),(5208,(fc w)),(5209,(cI z)),(5210,(cI B))]
abbrev f447:=λl=>rn Q20 55 [(aB l)]
abbrev f331:=λl=>rn Q7 56 [(aN l)]
abbrev N9:=λl q G I K L F w z B D=>hd Q7 56 12 [fM 2,(6,(DL l)),(7,(cZ q)),fM 8,(40,(cZ G)),(41,(aB I)),(42,(aB K))] [(2,(cn L)),(8,(.box 34 [(.row 5624),(gX F)])),(5128,(p8 w)),(5129,(jO z)),(5624,(p8 B)),(5625,(jO D))]
abbrev f460:=λl=>rn Q24 57 [(ff l)]
abbrev f484:=λl q=>rn Q0 58 [(ff l),(ff q)]
abbrev O7:=λl q w z=>hd Q0 58 4 [(0,(ff l)),(1,(ff q)),(12,(aB w)),(13,(aB z))] []
abbrev YS (l:List gK) (q:List c4):=eD Q18 (dT 10000 (.box 98 [(je l),(gX q),(.row 20001),(.row 20002),(.row 20003)]) (dI 20001 (iR 3 1 (bZ .i64)) (dI 20002 (iR 3 1 (bZ .i64)) (dJ 20003 (iR 50 1 (gU 2 bX.enc)) dZ))))
abbrev f442:=λD l q w z B=>dec (YS l q) (Rn 59 [(.ptr 10000 0),(dc D)] (Yy l q w z B))
abbrev JZ:=λI D F G l q w z B=>hx (YS l q) 59 2 [10000,20001,20002,20003] [(0,(.ptr 10000 0)),(4,(aB I)),(15,(dc D)),(16,(aB F)),(17,(aB G))] (Yy l q w z B)
abbrev OW:=λQ D F G I K L N O l q w z B=>hx (YS l q) 59 8 [10000,20001,20002,20003] [(0,(.ptr 10000 0)),(4,(aB Q)),vO 7,(15,(dc D)),(16,(aB F)),(17,(aB G)),(46,(fh I)),(47,(aB K)),(48,(aB L))] ((6,(lZ N))::(7,(iq O))::(Yy l q w z B))
abbrev E443r (l:List gK) (q:List c4):=eD Q0 (dT 10000 (.box 98 [(je l),(gX q),(.row 20001),(.row 20002),(.row 20003)]) (dI 20001 (iR 3 1 (bZ .i64)) (dI 20002 (iR 3 1 (bZ .i64)) (dJ 20003 (iR 50 1 (gU 2 bX.enc)) dZ))))
abbrev f443:=λD F l q w z B=>dec (E443r l q) (Rn 60 [(.ptr 10000 0),(aB D),(aB F)] (Yy l q w z B))
abbrev yD:=λF D l q w z B=>hx (E443r l q) 60 3 [10000,20001,20002,20003] [fM 3,fM 7,(8,(.cl 88 [.p 3, .p 7]))] ((3,(.box 95 [(.ptr 10000 0)]))::(7,(.box 138 [(.row 15)]))::(15,(jN F))::(5112,(jN D))::(Yy l q w z B))
abbrev E444r (l:List gK) (q:List c4):=eD Q3 (dT 10000 (.box 98 [(je l),(gX q),(.row 20001),(.row 20002),(.row 20003)]) (dI 20001 (iR 3 1 (bZ .i64)) (dI 20002 (iR 3 1 (bZ .i64)) (dJ 20003 (iR 50 1 (gU 2 bX.enc)) dZ))))
abbrev f444:=λD l q w z B=>dec (E444r l q) (Rn 61 [(.ptr 10000 0),(aB D)] (Yy l q w z B))
abbrev OX:=λF I K L G D l q w z B=>hx (E444r l q) 61 3 [10000,20001,20002,20003] [(1,(aB F)),fM 2,fM 4,fM 5,(16,(aB I)),(17,(aB K))] ((2,(.box 95 [(.ptr 10000 0)]))::(4,(bH L))::(5,(.box 60 [(.row 14)]))::(14,(cI G))::(5080,(cI D))::(Yy l q w z B))
abbrev f468:=λq l=>rn Q5 62 [(fh q),(aB l)]
abbrev O3:=λw l q=>hd Q5 62 2 [(0,(fh w)),(1,(aB l)),(5,(aB q))] []
abbrev f323:=λl=>rn Q12 63 [(aN l)]
abbrev JH:=λl w q B z=>hd Q12 63 8 [(0,(aN l)),(5,(cZ w)),(7,(dO q)),vO 8,(9,(aB B))] [(8,(eE z))]
abbrev D6:=λw B z F l D q=>hd Q12 63 12 [(0,(aN w)),(5,(cZ B)),(7,(dO z)),vO 8,(9,(aB F)),vO 10,(11,(aB l))] [(8,(eE D)),(10,(Af q))]
abbrev f15:=λl=>rn Q13 64 [(aN l)]
abbrev WQ:=λq l w z=>hd Q13 64 7 [(0,(aN q)),(5,(dO l)),vO 6,(7,(aB w))] [(6,(Ae z))]
abbrev Cq:=λB q l D w z=>hd Q13 64 15 [(0,(aN B)),(5,(dO q)),(6,(uq l)),(8,(uq D)),(9,(cZ w)),(10,(aB z))] []
abbrev N6:=λF q l G w z D B=>hd Q13 64 19 [(0,(aN F)),(5,(dO q)),(6,(uq l)),(8,(uq G)),(9,(cZ w)),(10,(aB z)),fM 11,(12,(aB D))] [(11,(PE B))]
abbrev f28:=λq l=>rn Q15 65 [(cZ q),(aB l)]
abbrev Ge:=λw l q z=>hd Q15 65 3 [(0,(cZ w)),(1,(aB l)),vO 5,(6,(aB q))] [(5,(cI z))]
abbrev Gf:=λz q w l B D=>hd Q15 65 8 [(0,(cZ z)),(1,(aB q)),vO 5,(6,(aB w)),(7,(YL l)),(8,(aB B))] [(5,(cI D))]
abbrev f320:=λl=>rn Q17 66 [(aN l)]
abbrev N8:=λl z q w B=>hd Q17 66 8 [(0,(aN l)),(5,(cZ z)),(7,(dO q)),vO 8,(9,(aB w))] [(8,(jO B))]
abbrev f351:=λw q l=>rn Q14 67 [(Ch w),(Ch q),(dO l)]
abbrev Od:=λl G I D F q w z B=>hd Q14 67 5 [(2,(dO l)),fM 6,fM 7,(8,(aB G))] [(6,(lJ I)),(7,(.box 90 [(Ch D),(.row 14),(.row 5162)])),(14,(dP F)),(5113,(dP q)),(5114,(kS w)),(5161,(dP z)),(5162,(kS B))]
abbrev G1:=λl F G D q w z B=>hd Q14 67 5 [(2,(dO l)),fM 6,fM 7,(8,(aB F))] [(6,(lJ G)),(7,(.box 90 [(Ch D),(.row 5161),(.row 5162)])),(5113,(dP q)),(5114,(kS w)),(5161,(dP z)),(5162,(kS B))]
abbrev f356:=λl t1 f2=>rn Q19 68 [(dD l),(aB t1),(aB f2)]
abbrev Oh:=λf2 q l=>hd Q19 68 3 [(2,(aB f2)),(8,(I8 q)),(9,(aB l))] []
abbrev f340:=λw l q=>rn Q0 69 [(dD w),(aB l),(aB q)]
abbrev f432:=λl=>rn Q15 70 [(fT l)]
abbrev JY:=λq w l=>hd Q15 70 3 [fM 1,(3,(.row 10)),(4,(aB q))] [(1,(bH w)),(10,(cI l))]
abbrev OQ:=λq z w B l=>hd Q15 70 8 [fM 1,(3,(.row 10)),(4,(aB q)),(5,(fh z)),(6,(aB w))] [(1,(bH B)),(10,(cI l))]
abbrev f440:=λw l q=>rn Q9 71 [(dD w),(fT l),(fT q)]
abbrev f441:=λl f1=>rn Q9 72 [(dD l),(fT f1)]
abbrev OV:=λl q w z B=>hd Q9 72 3 [fM 2,fM 3,fM 4,vO 6,(7,(aB l))] (tl11 q w z B)
abbrev wB:=λl q w z B=>hd Q9 72 7 [fM 2,fM 3,fM 4,vO 6,(8,(YL l))] (tl11 q w z B)
abbrev vR:=λl q w z B D=>hd Q9 72 10 [fM 2,fM 3,fM 4,vO 6,(9,(ff l)),(10,(aB q))] (tl11 w z B D)
abbrev vS:=λl q w k12 z B D F=>hd Q9 72 14 [fM 2,fM 3,fM 4,vO 6,(9,(ff l)),(10,(aB q)),(11,(fh w)),(12,(aB k12))] (tl11 z B D F)
abbrev He:=λq w z B l=>hd Q9 72 21 [fM 3,fM 4,vO 6,fM 13,(14,(aB q))] [(3,(bH w)),(4,(bH z)),(6,(cI B)),(13,(.box 24 [(.row 5208)])),(5208,(fc l))]
abbrev Ve (l:List gK) (q:List c4):=eD Q0 (dT 10000 (.box 123 [(je l),(gX q),(.row 20001),(.row 20002)]) (dI 20001 (iR 3 1 (bZ .i64)) (dJ 20002 (iR 3 1 (bZ .i64)) dZ)))
abbrev f461:=λf1 B l q w z=>dec (Ve l q) (Rn 73 [(.ptr 10000 0),(fT f1),(aB B)] (tl4 l q w z))
abbrev Ct:=λG B D F I l q w z=>hx (Ve l q) 73 2 [10000,20001,20002] [(0,(.ptr 10000 0)),(2,(aB G)),fM 4,(18,(fh B)),(19,(aB D)),(20,(aB F))] ((4,(bH I))::(tl4 l q w z))
abbrev E6:=λG B D F I l q w z=>hx (Ve l q) 73 8 [10000,20001,20002] [(0,(.ptr 10000 0)),(2,(aB G)),(44,(fh B)),(45,(aB D)),(46,(aB F))] ((4,(bH I))::(tl4 l q w z))
abbrev f462:=λl=>rn Q27 74 [(dc l)]
abbrev f466:=λq l=>rn Q5 75 [(GU q),(aB l)]
abbrev O2:=λl z B q w=>hd Q5 75 2 [(1,(aB l)),(8,(fh z)),(9,(aB B)),(10,(aB q))] [(2,(lZ w))]
abbrev f437:=λl=>rn Q10 76 [(fT l)]
abbrev OU:=λl q w z B=>hd Q10 76 6 [fM 1,fM 2,(18,(dc l)),(19,(aB q)),(20,(aB w))] [(1,(bH z)),(2,(bH B))]
abbrev f446:=λl q=>rn Q0 77 [(fT l),(fT q)]
abbrev f63:=λl q=>rn Q0 78 [(gP l),(gP q)]
abbrev WY:=λl q w z=>hd Q0 78 2 [(1,(gP l)),(7,(gP q)),(8,(aB w)),(9,(aB z))] []
abbrev f454:=λl q=>rn Q5 79 [(fh l),(aB q)]
abbrev J6:=λq w l=>hd Q5 79 2 [(0,(fh q)),(1,(aB w)),(5,(aB l))] []
abbrev J7:=λw z l q=>hd Q5 79 7 [(0,(fh w)),(1,(aB z)),(5,(aB l)),(6,(aB q))] []
abbrev E455r (l:List Node):=eD Q18 (dT 10000 (.box 133 [(dc l),(.row 20001),(.row 20002)]) (dI 20001 (iR 3 1 (bZ .i64)) (dJ 20002 (iR 3 1 (bZ .i64)) dZ)))
abbrev f455:=λz l q w=>dec (E455r l) (Rn 80 [(.ptr 10000 0),(aB z)] [(10000,(.box 133 [(dc l),(.row 20001),(.row 20002)])),(20001,(cI q)),(20002,(cI w))])
abbrev J8:=λB z l q w=>hx (E455r l) 80 4 [10000,20001,20002] [(0,(.ptr 10000 0)),(4,(fh B)),(5,(aB z))] [(10000,(.box 133 [(dc l),(.row 20001),(.row 20002)])),(20001,(cI q)),(20002,(cI w))]
abbrev f463:=λl=>rn Q28 81 [(fh l)]
abbrev yF:=λq l w=>hd Q28 81 3 [(0,(fh q)),vO 3,(4,(aB l))] [(3,(iq w))]
abbrev Hf:=λq l z w=>hd Q28 81 6 [(0,(fh q)),vO 3,(4,(aB l)),(5,(aB z))] [(3,(iq w))]
abbrev f459:=λl=>rn Q20 83 [(aB l)]
abbrev f319:=λl=>rn Q17 84 [(aN l)]
abbrev N7:=λ(t4:Option table) l q w z=>hd Q17 84 6 [(4,(.pv (Tp table.enc t4))),vO 6,(20,(dO l)),(21,(aB q)),(22,(aB w))] [(6,(jO z))]
abbrev f322:=λl=>rn Q12 85 [(aN l)]
abbrev f14:=λl=>rn Q13 86 [(aN l)]
abbrev f27:=λq l=>rn Q15 87 [(cZ q),(aB l)]
abbrev E486r (l:List gK) (q:List c4):=eD Q0 (dT 10000 (.box 95 [(.ptr 10002 0)]) (dT 10001 (.box 138 [(.row 20003)]) (dT 10002 (.box 98 [(je l),(gX q),(.row 20004),(.row 20005),(.row 20006)]) (dI 20003 (iR 137 2 dh.enc) (dI 20004 (iR 3 1 (bZ .i64)) (dI 20005 (iR 3 1 (bZ .i64)) (dJ 20006 (iR 50 1 (gU 2 bX.enc)) dZ)))))))
abbrev f486:=λF G l q w z B D=>dec (E486r l q) (Rn 88 [(aB F),(aB G),(.ptr 10000 0),(.ptr 10001 0)] (tl6 l q w z B D))
abbrev ni:=λI K G F l q w z B D=>hx (E486r l q) 88 8 [10000,10001,10002,20003,20004,20005,20006] [(0,(aB I)),(2,(.ptr 10000 0)),(3,(.ptr 10001 0)),(9,(fh K)),(10,(fh G)),vO 11] ((11,(iq F))::(tl6 l q w z B D))
abbrev f335:=λw l q=>rn Q19 89 [(dD w),(aB l),(aB q)]
abbrev E485r (l:List gK) (q:List c4):=eD Q5 (dT 10000 (.box 98 [(je l),(gX q),(.row 20001),(.row 20002),(.row 20003)]) (dI 20001 (iR 3 1 (bZ .i64)) (dI 20002 (iR 3 1 (bZ .i64)) (dJ 20003 (iR 50 1 (gU 2 bX.enc)) dZ))))
abbrev f485:=λD l q w z B=>dec (E485r l q) (Rn 90 [(.ptr 10000 0),(aB D)] (Yy l q w z B))
abbrev Kb:=λD l q w z B=>hx (E485r l q) 90 1 [10000,20001,20002,20003] [(0,(.ptr 10000 0)),(1,(aB D))] (Yy l q w z B)
abbrev E487r (l:List gK) (q:List c4):=eD Q5 (dT 10000 (.box 95 [(.ptr 10004 0)]) (dT 10001 (.box 60 [(.row 20005)]) (dT 10002 (.box 24 [(.row 20006)]) (dT 10003 (.box 139 [(.cl 91 [.p 10000, .p 10001, .p 10002, .p 10003])]) (dT 10004 (.box 98 [(je l),(gX q),(.row 20007),(.row 20008),(.row 20009)]) (dI 20005 (iR 3 1 (bZ .i64)) (dI 20006 (iR 52 2 Node.enc) (dI 20007 (iR 3 1 (bZ .i64)) (dI 20008 (iR 3 1 (bZ .i64)) (dJ 20009 (iR 50 1 (gU 2 bX.enc)) dZ))))))))))
abbrev f487:=λG l q w z B D F=>dec (E487r l q) (Rn 91 [(aB G),(.ptr 10000 0),(.ptr 10001 0),(.ptr 10002 0),(.ptr 10003 0)] (tl5 l q w z B D F))
abbrev O8:=λN G I K L l q w z B D F=>hx (E487r l q) 91 9 [10000,10001,10002,10003,10004,20005,20006,20007,20008,20009] [(3,(.ptr 10002 0)),(4,(.ptr 10003 0)),(7,(aB N)),vO 8,(49,(fh G)),(50,(aB I)),(51,(aB K))] ((8,(iq L))::(tl5 l q w z B D F))
abbrev f318:=λl=>rn Q5 92 [(aN l)]
abbrev GZ:=λl z q w=>hd Q5 92 11 [(0,(aN l)),(3,(cZ z)),(5,(dO q)),(7,(aB w))] []
abbrev D4:=λq z w l=>hd Q5 92 17 [(0,(aN q)),(3,(cZ z)),(5,(dO w)),(10,(aB l))] []
abbrev D5:=λw B z q l=>hd Q5 92 20 [(0,(aN w)),(3,(cZ B)),(5,(dO z)),(10,(aB q)),(11,(aB l))] []
abbrev f345:=λl=>rn Q16 93 [(aN l)]
abbrev JK:=λq l w=>hd Q16 93 3 [(0,(aN q)),(3,(dO l)),(4,(aB w))] []
abbrev Oc:=λq l w z=>hd Q16 93 6 [(0,(aN q)),(3,(dO l)),(4,(aB w)),(5,(aB z))] []
abbrev f370:=λq w t2 l=>rn Q26 94 [(aN q),(cZ w),(aB t2),(Ch l)]
abbrev E1:=λB D t2 q w l z=>hd Q26 94 4 [(0,(aN B)),(1,(cZ D)),(2,(aB t2)),(3,(Ch q)),(10,(YL w)),(11,(gP l)),(12,(aB z))] []
abbrev f19:=λq l=>rn Q5 95 [(cZ q),(gP l)]
abbrev WR:=λq w l=>hd Q5 95 3 [(0,(cZ q)),(5,(gP w)),(6,(aB l))] []
abbrev f32:=λl=>rn Q5 96 [(aN l)]
abbrev JJ:=λl w q=>hd Q5 96 12 [(0,(aN l)),(6,(aB w)),(7,(aB q))] []
abbrev f52:=λl=>rn Q16 97 [(aN l)]
abbrev WU:=λq l w=>hd Q16 97 3 [(0,(aN q)),(3,(dO l)),(4,(aB w))] []
abbrev f53:=λw q l=>rn Q21 98 [(aN w),(dO q),(Ch l)]
abbrev R4:=λl q w z=>hd Q21 98 4 [(1,(dO l)),(7,(dO q)),vO 8,(9,(aB w))] [(8,(cI z))]
abbrev f54:=λl=>rn Q22 99 [(uq l)]
abbrev LM:=λl q=>hd Q22 99 3 [(3,(.row 7)),(4,(aB l))] [(7,(Ae q))]
abbrev LN:=λl q w=>hd Q22 99 6 [(3,(.row 7)),(4,(aB l)),(5,(aB q))] [(7,(Ae w))]
abbrev f55:=λz q l w=>rn Q20 100 [(aN z),(dO q),(uq l),(gP w)]
abbrev R5:=λB q l z w D=>hd Q20 100 3 [(0,(aN B)),(1,(dO q)),(2,(uq l)),(3,(gP z)),vO 9,(10,(aB w))] [(9,(dP D))]
abbrev E8:=λw q l=>hd Q20 100 12 [(9,(dO w)),(11,(Ch q)),(12,(aB l))] []
abbrev f56:=λl q=>rn Q0 101 [(Ru l),(Ru q)]
abbrev f25:=λw l q=>rn Q0 102 [(cZ w),(aB l),(aB q)]
abbrev f357:=λq l=>rn Q25 103 [(aN q),(Ch l)]
abbrev JN:=λw q l z=>hd Q25 103 3 [(0,(aN w)),(1,(Ch q)),(6,(dO l)),(7,(aB z))] []
abbrev f358:=λq l=>rn Q5 104 [(cZ q),(Ch l)]
abbrev Oi:=λw l q=>hd Q5 104 2 [(0,(cZ w)),(1,(Ch l)),(5,(aB q))] []
abbrev f65:=λl q=>rn Q0 105 [(gP l),(gP q)]
abbrev f448:=λl q=>rn Q23 106 [(dc l),(dc q)]
abbrev J1:=λl q w z=>hd Q23 106 3 [(0,(dc l)),(1,(dc q)),(5,(.row 9)),(6,(aB w))] [(9,(fc z))]
abbrev OZ:=λz B D F w G l q=>hd Q23 106 7 [(0,(dc z)),(1,(dc B)),(5,(.row 9)),(6,(aB D)),fM 7,(8,(aB F))] [(7,(.box 52 [(aB w),(.row 5369)])),(9,(fc G)),(5113,(iq l)),(5369,(iq q))]
abbrev f451:=λq l=>rn Q15 107 [(dc q),(ff l)]
abbrev J5:=λz D w B l q=>hd Q15 107 5 [(0,(dc z)),(1,(ff D)),(5,(.row 20)),(6,(.row 23)),vO 7,(8,(aB w))] [(7,(jN B)),(20,(cI l)),(23,(nh q))]
abbrev sL:=λw z l q=>hd Q15 107 11 [(5,(.row 20)),(6,(.row 23)),vO 7,(9,(aB w))] [(7,(jN z)),(20,(cI l)),(23,(nh q))]
abbrev yE:=λB q l k12 D w z=>hd Q15 107 17 [(5,(.row 20)),(6,(.row 23)),vO 7,(9,(aB B)),(10,(aB q)),(11,(aB l)),(12,(aB k12))] [(7,(jN D)),(20,(cI w)),(23,(nh z))]
abbrev Ed:=λD q l k14 F z B w=>hd Q15 107 23 [(5,(.row 20)),(6,(.row 23)),vO 7,(9,(aB D)),(10,(aB q)),(11,(aB l)),(13,(.row 112)),(14,(aB k14))] [(7,(jN F)),(20,(cI z)),(23,(nh B)),(112,(iq w))]
abbrev f450:=λl q w=>rn Q15 108 [(ff l),(aB q),(aB w)]
abbrev J4:=λq l w Ye=>hd Q15 108 5 [(7,(aB q)),(8,(aB l)),(9,(.row 29)),(10,(aB w))] [(29,(cI Ye))]
abbrev f449:=λl=>rn Q24 109 [(aB l)]
abbrev O0:=λq l w=>hd Q24 109 3 [(0,(aB q)),vO 3,(4,(aB l))] [(3,(cI w))]
abbrev f452:=λq w l=>rn Q11 110 [(dD q),(dc w),(ff l)]
abbrev Ap:=λw B q z l=>hd Q11 110 3 [(1,(dc w)),(2,(ff B)),fM 3,(8,(.row 15)),(9,(aB q))] [(3,(cn z)),(15,(cI l))]
abbrev Ee:=λw z l q=>hd Q11 110 10 [(1,(dc w)),(2,(ff z)),(8,(.row 15)),(12,(aB l))] [(15,(cI q))]
abbrev f453:=λz w l q=>rn Q3 111 [(dc z),(ff w),(ff l),(aB q)]
abbrev Ef:=λD G q z B F w l=>hd Q3 111 3 [(0,(dc D)),(1,(ff G)),(2,(ff q)),(3,(aB z)),fM 8,fM 9,(10,(aB B))] (tl8 F w l)
abbrev A7:=λB F w z D q l=>hd Q3 111 7 [(0,(dc B)),(1,(ff F)),(3,(aB w)),fM 8,fM 9,(11,(aB z))] (tl8 D q l)
abbrev Aq:=λF I w B z D G q l=>hd Q3 111 11 [(0,(dc F)),(1,(ff I)),(3,(aB w)),fM 8,fM 9,(11,(aB B)),(12,(aB z)),(13,(aB D))] (tl8 G q l)
abbrev E477r:=eR Q0 10000 3 1 (bZ .i64)
abbrev f477:=λq w x3 l=>dec (E477r) (Rn 112 [(dD q),(.row 10000),(aB w),(UF x3)] [(10000,(cI l))])
abbrev f471:=λl q=>rn Q0 113 [(ff l),(ff q)]
abbrev O4:=λl q w=>hd Q0 113 2 [(0,(ff l)),(1,(ff q)),(5,(aB w))] []
abbrev f472:=λB t2 l q w z=>dec (Ve l q) (Rn 114 [(.ptr 10000 0),(aB B),(aB t2)] (tl4 l q w z))
abbrev f456:=λq l=>rn Q5 115 [(GU q),(aB l)]
abbrev J9:=λl w z B D q=>hd Q5 115 5 [(1,(aB l)),(5,(.row 11)),(13,(fh w)),(14,(aB z)),(15,(aB B))] [(2,(lZ D)),(11,(Re q))]
abbrev f457:=λq l=>rn Q3 116 [(fT q),(aB l)]
abbrev Ka:=λD F G I z B l q w=>hd Q3 116 8 [fM 2,fM 4,fM 5,fM 8,(22,(.row 5096)),(23,(aB D)),(24,(aB F))] [(2,(bH G)),(4,(bH I)),(5,(.box 204 [(.row 13)])),(6,(.box 60 [(.row 5096)])),(8,(.box 24 [(.row 20)])),(13,(vG z)),(20,(fc B)),(5096,(cI l)),(5128,(fc q)),(5336,(fc w))]
abbrev Eg:=λN z G I K L O Q B D F l q w=>hd Q3 116 12 [fM 2,fM 4,fM 5,fM 8,(9,(aB N)),(10,(aB z)),(11,(.row 36)),(22,(.row 5096)),(23,(aB G)),(24,(aB I)),(38,(aB K)),(39,(aB L))] [(2,(bH O)),(4,(bH Q)),(5,(.box 204 [(.row 13)])),(6,(.box 60 [(.row 5096)])),(8,(.box 24 [(.row 20)])),(13,(vG B)),(20,(fc D)),(36,(iq F)),(5096,(cI l)),(5128,(fc q)),(5336,(fc w))]
abbrev f458:=λl q=>rn Q5 117 [(fT l),(fT q)]
abbrev f107:=λl q=>rn Q34 118 [(gP l),(aB q)]
abbrev f344:=λl=>rn Q29 120 [(aN l)]
abbrev UY:=λl K L N I q w z B D F G=>hd Q29 120 6 [(4,(cZ l)),(6,(.ptr 23 0)),(24,(aN K)),(25,(aB L)),(26,(aB N))] [(21,(iz I)),(23,(.box 171 [(aN q),(cZ w),(.row 21),(.row 5355),(.row 5356),(.row 5357)])),(5352,(Gx z)),(5353,(KN B)),(5355,(dP D)),(5356,(cI F)),(5357,(eE G))]
abbrev f31:=λl q=>rn Q0 126 [(gP l),(gP q)]
abbrev f478:=λl=>rn Q5 132 [(ff l)]
abbrev Ar:=λl q w z=>hd Q5 132 3 [(3,(aB l)),(6,(ff q)),(7,(aB w)),(8,(aB z))] []
abbrev f464:=λl q=>rn Q5 133 [(aB l),(aB q)]
abbrev f24:=λw l q=>rn Q0 136 [(cZ w),(aB l),(aB q)]
abbrev E67r (l:Int) (q:List aA) (w:List dX) (z:List ((List UInt8)×Int)) (B:List (List UInt8)) (D:List Int) (F:List (List c8)):=eZ Q0 (dS 10000 (.box 166 [(.ptr 10002 0)]) (dS 10001 (.box 3 [(aB l)]) (dS 10002 (.box 171 [(aN q),(cZ w),(.row 10003),(.row 10004),(.row 10005),(.row 10006)]) (dS 10003 (iz z) (dS 10004 (dP B) (dS 10005 (cI D) (dS 10006 (eE F) dZ)))))))
abbrev f67a:=λG l q w z B D F=>dec (E67r l q w z B D F) (Rn 138 [(ff G),(.cl 226 [.p 10000, .p 10001])] ((10000,(.box 166 [(.ptr 10002 0)]))::(10001,(.box 3 [(aB l)]))::(Sa q w z B D F)))
abbrev f29:=λl q=>rn Q21 139 [(gP l),(gP q)]
abbrev R1:=λz B q w l=>hd Q21 139 3 [(0,(gP z)),(1,(gP B)),(5,(.row 12)),(14,(aB q)),(15,(aB w))] [(12,(xb l))]
abbrev f353:=λq (l:List Int)=>rn Q5 140 [(je q),(.pv (.fn 141 [(.ref [(.dH 1 (List.map (bZ .u64) l))])]))]
abbrev Oe:=λq (l:List Int) w z=>hd Q5 140 2 [(0,(je q)),(1,(.pv (.fn 141 [(.ref [(.dH 1 (List.map (bZ .u64) l))])]))),(7,(aB w)),(8,(aB z))] []
abbrev f371:=λq (l:List Int)=>rn Q0 141 [(acL q),(.pv (.ref [(.dH 1 (List.map (bZ .u64) l))]))]
abbrev f346:=λl=>rn Q5 142 [(aN l)]
abbrev JL:=λq l w=>hd Q5 142 3 [(0,(aN q)),(3,(dO l)),(4,(aB w))] []
abbrev JM:=λq l w B z=>hd Q5 142 7 [(0,(aN q)),(3,(dO l)),(4,(aB w)),(5,(iT B)),(6,(aB z))] []
abbrev G0:=λq l w B z D=>hd Q5 142 12 [(0,(aN q)),(3,(dO l)),(4,(aB w)),(5,(iT B)),(6,(aB z)),(7,(aB D))] []
abbrev f98:=λl s1=>rn Q16 143 [(dO l),(Ch s1)]
abbrev W5:=λl s1 w q=>hd Q16 143 3 [(0,(dO l)),(1,(Ch s1)),vO 5,(6,(aB w))] [(5,(dP q))]
abbrev f373:=λq l=>rn Q25 144 [(FW q),(Ch l)]
abbrev On:=λl q w=>hd Q25 144 2 [(1,(Ch l)),fM 2,(6,(aB q))] [(2,(lJ w))]
abbrev f61:=λl q=>rn Q21 145 [(gP l),(gP q)]
abbrev WX:=λl q w z=>hd Q21 145 3 [(0,(gP l)),(1,(gP q)),vO 5,(6,(aB w))] [(5,(xb z))]
abbrev f60:=λl=>rn Q21 146 [(gP l)]
abbrev WW:=λl q=>hd Q21 146 2 [(0,(gP l)),(3,(aB q))] []
abbrev f57:=λl q=>rn Q0 147 [(gP l),(gP q)]
abbrev WV:=λl q w=>hd Q0 147 4 [(0,(gP l)),(1,(gP q)),(5,(aB w))] []
abbrev f70:=λl=>rn Q5 148 [(aN l)]
abbrev W0:=λl q=>hd Q5 148 4 [(0,(aN l)),(3,(aB q))] []
abbrev f71:=λl=>rn Q5 149 [(aN l)]
abbrev W1:=λl q=>hd Q5 149 2 [(0,(aN l)),(3,(aB q))] []
abbrev f72:=λl=>rn Q5 150 [(aN l)]
abbrev R6:=λl q=>hd Q5 150 2 [(0,(aN l)),(3,(aB q))] []
abbrev W4:=λl q z w=>hd Q5 150 6 [(0,(aN l)),(3,(aB q)),(4,(dO z)),(5,(aB w))] []
abbrev f73:=λl=>rn Q16 151 [(aN l)]
abbrev Ke:=λq l w=>hd Q16 151 3 [(0,(aN q)),vO 3,(4,(YL l))] [(3,(dP w))]
abbrev Eh:=λw l q z B=>hd Q16 151 7 [(0,(aN w)),vO 3,(4,(YL l)),(5,(Ch q)),(6,(aB z))] [(3,(dP B))]
abbrev f99:=λq l=>rn Q16 152 [(aN q),(Ch l)]
abbrev R7:=λq w l=>hd Q16 152 5 [(0,(aN q)),(5,(.row 15)),(6,(aB w))] [(15,(dP l))]
abbrev LO:=λq w z l=>hd Q16 152 8 [(0,(aN q)),(5,(.row 15)),(6,(aB w)),(7,(aB z))] [(15,(dP l))]
abbrev E9:=λl w q=>hd Q16 152 14 [(5,(.row 15)),(8,(dO l)),(9,(aB w))] [(15,(dP q))]
abbrev f37:=λl s1=>rn Q0 153 [(dO l),(Ch s1)]
abbrev WS:=λq s1 l=>hd Q0 153 2 [(0,(dO q)),(1,(Ch s1)),(5,(aB l))] []
abbrev f100:=λl=>rn Q32 154 [(ff l)]
abbrev NY:=λq l w=>hd Q32 154 3 [(0,(ff q)),(4,(.row 6)),(5,(aB l))] [(6,(xb w))]
abbrev f101:=λq l=>rn Q0 155 [(uq q),(gP l)]
abbrev NZ:=λw l q=>hd Q0 155 2 [(0,(uq w)),(1,(gP l)),(5,(aB q))] []
abbrev f102:=λl q=>rn Q0 156 [(gP l),(gP q)]
abbrev f103:=λl q=>rn Q0 157 [(gP l),(aB q)]
abbrev f104:=λl q=>rn Q16 158 [(aN l),(dO q)]
abbrev EZ:=λq l w z=>hd Q16 158 4 [(0,(aN q)),vO 5,(6,(dO l)),(7,(aB w))] [(5,(dP z))]
abbrev E0:=λz q B w l k10 D=>hd Q16 158 9 [(0,(aN z)),vO 5,(6,(dO q)),(7,(aB B)),(8,(dO w)),(9,(YL l)),(10,(aB k10))] [(5,(dP D))]
abbrev f105:=λl=>rn Q5 159 [(gP l)]
abbrev f108:=λl q=>rn Q21 160 [(gP l),(gP q)]
abbrev N0:=λl q w z=>hd Q21 160 3 [(0,(gP l)),(1,(gP q)),vO 5,(6,(aB w))] [(5,(xb z))]
abbrev f491:=λq l=>rn Q19 161 [(fh q),(aB l)]
abbrev O9:=λw l q=>hd Q19 161 2 [(0,(fh w)),(1,(aB l)),(6,(aB q))] []
abbrev f336:=λw l q=>rn Q19 162 [(dD w),(aB l),(aB q)]
abbrev f476:=λq w l=>rn Q19 163 [(fT q),(aB w),(aB l)]
abbrev O5:=λl w q=>hd Q19 163 3 [(2,(aB l)),(8,(fh w)),(9,(aB q))] []
abbrev E488r (l:FSt):=eD Q18 (dT 10000 (.box 60 [(.row 20004)]) (dT 10001 (.box 204 [(.row 10005)]) (dT 10002 (bH l) (dT 10003 (.box 134 [(.cl 164 [.p 10000, .p 10001, .p 10002, .p 10003])]) (dI 20004 (iR 3 1 (bZ .i64)) (dJ 10005 (iM 3 3 V3 V3) dZ))))))
abbrev f488:=λz l w q=>dec (E488r l) (Rn 164 [(aB z),(.ptr 10000 0),(.ptr 10001 0),(.ptr 10002 0),(.ptr 10003 0)] [(10000,(.box 60 [(.row 20004)])),(10001,(.box 204 [(.row 10005)])),(10002,(bH l)),(10003,(.box 134 [(.cl 164 [.p 10000, .p 10001, .p 10002, .p 10003])])),(20004,(cI w)),(10005,(vG q))])
abbrev Kc:=λz B YK l q w=>hx (E488r l) 164 3 [10000,10001,10002,10003,20004,10005] [(2,(.ptr 10001 0)),(4,(.ptr 10003 0)),vO 25,(26,(aB z)),(27,(aB B))] [(25,(iq YK)),(10000,(.box 60 [(.row 20004)])),(10001,(.box 204 [(.row 10005)])),(10002,(bH l)),(10003,(.box 134 [(.cl 164 [.p 10000, .p 10001, .p 10002, .p 10003])])),(10005,(vG q)),(20004,(cI w))]
abbrev f490:=λ(l:List bX)=>rn Q28 165 [(.pv (.fn 214 [(.ref [(.dH 2 (List.map bX.enc l))])])),(.pv (.fn 167 []))]
abbrev f489:=λl=>rn Q33 166 [(fh l)]
abbrev f465:=λl q=>rn Q5 168 [(dc l),(dc q),(.pv (.fn 169 []))]
abbrev O1:=λl q w z B=>hd Q5 168 2 [(0,(dc l)),(1,(dc q)),(2,(.pv (.fn 169 []))),(11,(dc w)),(12,(aB z)),(13,(aB B))] []
abbrev f473:=λl q=>rn Q5 169 [(GU l),(GU q)]
abbrev f366:=λq (l:aA)=>rn Q5 171 [(cZ q),(.pv (.fn 172 [(.ref (aA.enc l))]))]
abbrev zb (l:List aA) (q:List dX):=eD Q5 (dT 10000 (.box 171 [(aN l),(cZ q),(.row 10001),(.row 20002),(.row 20003),(.row 20004)]) (dI 10001 (iM 9 3 V9 V3) (dI 20002 (iR 9 1 jr) (dI 20003 (iR 3 1 (bZ .i64)) (dJ 20004 (iR 114 1 (gU 2 c8.enc)) dZ)))))
abbrev f367:=λl q w z B D=>dec (zb l q) (Rn 173 [(.ptr 10000 0)] (tl0 l q w z B D))
abbrev Oj:=λG I K F l q w z B D=>hx (zb l q) 173 3 [10000,10001,20002,20003,20004] [(0,(.ptr 10000 0)),(3,(.row 15)),(19,(aN G)),(20,(aB I)),(21,(aB K))] ((15,(vH F))::(tl0 l q w z B D))
abbrev Ol:=λG I K L N O Q F l q w z B D=>hx (zb l q) 173 6 [10000,10001,20002,20003,20004] [(0,(.ptr 10000 0)),(3,(.row 15)),(19,(aN G)),(20,(aB I)),(21,(aB K)),(26,(iT L)),(27,(aB N)),(28,(aB O))] ((5,(lJ Q))::(15,(vH F))::(tl0 l q w z B D))
abbrev G4:=λG I K F l q w z B D=>hx (zb l q) 173 14 [10000,10001,20002,20003,20004] [(0,(.ptr 10000 0)),(3,(.row 15)),(43,(aN G)),(44,(aB I)),(45,(aB K))] ((15,(vH F))::(tl0 l q w z B D))
abbrev G5:=λG I K L N O Q F l q w z B D=>hx (zb l q) 173 17 [10000,10001,20002,20003,20004] [(0,(.ptr 10000 0)),(3,(.row 15)),fM 9,(43,(aN G)),(44,(aB I)),(45,(aB K)),(50,(iT L)),(51,(aB N)),(52,(aB O))] ((9,(lJ Q))::(15,(vH F))::(tl0 l q w z B D))
abbrev f368:=λl q w z B D=>dec (zb l q) (Rn 174 [(.ptr 10000 0)] (tl0 l q w z B D))
abbrev Om:=λF G l q w z B D=>hx (zb l q) 174 2 [10000,10001,20002,20003,20004] [fM 1,(10,(.row 20002)),(11,(aB F)),(12,(aB G))] ((1,(.box 166 [(.ptr 10000 0)]))::(tl0 l q w z B D))
abbrev f369:=λl q w z B D=>dec (zb l q) (Rn 175 [(.ptr 10000 0)] (tl0 l q w z B D))
abbrev UZ:=λF G l q w z B D=>hx (zb l q) 175 2 [10000,10001,20002,20003,20004] [(0,(.ptr 10000 0)),(15,(aB F)),(16,(aB G))] (tl0 l q w z B D)
abbrev JO:=λ(w:List ((List UInt8)×(List Int))) G I K L N l q z B D F=>hx (zb l q) 175 7 [10000,10001,20002,20003,20004] [(0,(.ptr 10000 0)),vO 4,(5,(.pv (.mp (dN V9 Pv w).1 (dN V9 Pv w).2))),(15,(aB G)),(16,(aB I)),(25,(.row 20002)),(26,(aB K)),(27,(aB L))] ((4,(Af N))::(tl0 l q z B D F))
abbrev f469:=λl=>rn Q0 198 [(aB l)]
abbrev E109r (l:List Int) (q:List aA) (w:List dX) (z:List ((List UInt8)×Int)) (B:List (List UInt8)) (D:List Int) (F:List (List c8)):=eZ Q5 (dS 10000 (.box 60 [(ff l)]) (dS 10001 (.box 166 [(.ptr 10002 0)]) (dS 10002 (.box 171 [(aN q),(cZ w),(.row 10003),(.row 10004),(.row 10005),(.row 10006)]) (dS 10003 (iz z) (dS 10004 (dP B) (dS 10005 (cI D) (dS 10006 (eE F) dZ)))))))
abbrev Pq (l:Int) (q:List aA) (w:List dX) (z:List ((List UInt8)×Int)) (B:List (List UInt8)) (D:List Int) (F:List (List c8)):=eZ Q5 (dS 10000 (.box 166 [(.ptr 10002 0)]) (dS 10001 (.box 3 [(aB l)]) (dS 10002 (.box 171 [(aN q),(cZ w),(.row 10003),(.row 10004),(.row 10005),(.row 10006)]) (dS 10003 (iz z) (dS 10004 (dP B) (dS 10005 (cI D) (dS 10006 (eE F) dZ)))))))
abbrev ZS:=λG l q w z B D F=>dec (E109r l q w z B D F) (Rn 201 [(ff G),(.cl 225 [.p 10000, .p 10001])] ((10000,(.box 60 [(ff l)]))::(10001,(.box 166 [(.ptr 10002 0)]))::(Sa q w z B D F)))
abbrev ZT:=λG l q w z B D F=>dec (Pq l q w z B D F) (Rn 201 [(ff G),(.cl 226 [.p 10000, .p 10001])] ((10000,(.box 166 [(.ptr 10002 0)]))::(10001,(.box 3 [(aB l)]))::(Sa q w z B D F)))
abbrev N2:=λG I K l q w z B D F=>hx (E109r l q w z B D F) 201 2 [10000,10001,10002,10003,10004,10005,10006] [(0,(ff G)),(1,(.cl 225 [.p 10000, .p 10001])),(7,(aB I)),(8,(aB K))] ((10000,(.box 60 [(ff l)]))::(10001,(.box 166 [(.ptr 10002 0)]))::(Sa q w z B D F))
abbrev N3:=λG I K l q w z B D F=>hx (Pq l q w z B D F) 201 2 [10000,10001,10002,10003,10004,10005,10006] [(0,(ff G)),(1,(.cl 226 [.p 10000, .p 10001])),(7,(aB I)),(8,(aB K))] ((10000,(.box 166 [(.ptr 10002 0)]))::(10001,(.box 3 [(aB l)]))::(Sa q w z B D F))
abbrev f68:=λl=>rn Q21 202 [(gP l)]
abbrev WZ:=λl q=>hd Q21 202 2 [(0,(gP l)),(3,(aB q))] []
abbrev f372:=λl=>rn Q0 203 [(Ch l)]
abbrev f106:=λl q=>rn Q34 204 [(gP l),(aB q)]
abbrev f110:=λl=>rn Q0 205 [(Ch l)]
abbrev f111:=λq l=>rn Q5 206 [(aN q),(Ch l)]
abbrev N4:=λq l w=>hd Q5 206 2 [(0,(aN q)),(1,(Ch l)),(5,(aB w))] []
abbrev f112:=λq l=>rn Q0 207 [(FW q),(dO l)]
abbrev N5:=λl q w=>hd Q0 207 2 [(1,(dO l)),fM 2,(5,(aB q))] [(2,(lJ w))]
abbrev f137:=λl q=>rn Q16 208 [(aN l),(dO q)]
abbrev JC:=λq z l w=>hd Q16 208 3 [(0,(aN q)),(1,(dO z)),(5,(dO l)),(6,(aB w))] []
abbrev f138:=λq l=>rn Q16 209 [(aN q),(Ch l)]
abbrev JD:=λq w l=>hd Q16 209 5 [(0,(aN q)),(5,(.row 16)),(6,(aB w))] [(16,(dP l))]
abbrev JE:=λq w B z l=>hd Q16 209 9 [(0,(aN q)),(5,(.row 16)),(6,(aB w)),(7,(dO B)),(8,(aB z))] [(16,(dP l))]
abbrev A4:=λl q w=>hd Q16 209 15 [(5,(.row 16)),(9,(dO l)),(10,(aB q))] [(16,(dP w))]
abbrev f139:=λl=>rn Q15 210 [(gP l)]
abbrev JF:=λl q w=>hd Q15 210 3 [(0,(gP l)),vO 3,(4,(aB q))] [(3,(cI w))]
abbrev f354:=λq l=>rn Q19 211 [(dD q),(gP l)]
abbrev Of:=λl q w=>hd Q19 211 2 [(1,(gP l)),fM 2,(6,(aB q))] [(2,(cn w))]
abbrev f479:=λl q=>rn Q5 215 [(fh l),(fh q),(.pv (.fn 216 []))]
abbrev O6:=λl q w z B=>hd Q5 215 2 [(0,(fh l)),(1,(fh q)),(2,(.pv (.fn 216 []))),(11,(fh w)),(12,(aB z)),(13,(aB B))] []
abbrev f482:=λl q=>rn Q5 216 [(UF l),(UF q)]
abbrev f380:=λl=>rn Q0 221 [(Ch l)]
abbrev E381r (l:bS):=eZ Q0 (dS 10000 (nE l) dZ)
abbrev f381:=λq l=>dec (E381r l) (Rn 222 [(iT q),(.cl 223 [.p 10000])] [(10000,(nE l))])
abbrev ZU:=λq (l:List UInt8)=>rn Q0 222 [(iT q),(.pv (.fn 263 [(.ref [(.str l)])]))]
abbrev f388:=λq l=>dec (E381r l) (Rn 223 [(zY q),(.ptr 10000 0)] [(10000,(nE l))])
abbrev E376r (l:List aA) (q:List dX) (w:List ((List UInt8)×Int)) (z:List (List UInt8)) (B:List Int) (D:List (List c8)):=eZ Q15 (dS 10000 (.box 171 [(aN l),(cZ q),(.row 10001),(.row 10002),(.row 10003),(.row 10004)]) (dS 10001 (iz w) (dS 10002 (dP z) (dS 10003 (cI B) (dS 10004 (eE D) dZ)))))
abbrev f376:=λF l q w z B D=>dec (E376r l q w z B D) (Rn 224 [(.ptr 10000 0),(Ch F)] (tl3 l q w z B D))
abbrev JP:=λ(F:List UInt8) G I K L l q w z B D=>hx (E376r l q w z B D) 224 3 [10000,10001,10002,10003,10004] [(0,(.ptr 10000 0)),(3,(.cp [(.str F)])),vO 5,(11,(aN G)),(12,(aB I)),(13,(aB K))] ((5,(cI L))::(tl3 l q w z B D))
abbrev E382r (l:List Int) (q:List aA) (w:List dX) (z:List ((List UInt8)×Int)) (B:List (List UInt8)) (D:List Int) (F:List (List c8)):=eZ Q0 (dS 10000 (.box 60 [(ff l)]) (dS 10001 (.box 166 [(.ptr 10002 0)]) (dS 10002 (.box 171 [(aN q),(cZ w),(.row 10003),(.row 10004),(.row 10005),(.row 10006)]) (dS 10003 (iz z) (dS 10004 (dP B) (dS 10005 (cI D) (dS 10006 (eE F) dZ)))))))
abbrev f382:=λG l q w z B D F=>dec (E382r l q w z B D F) (Rn 225 [(aB G),(.ptr 10000 0),(.ptr 10001 0)] ((10000,(.box 60 [(ff l)]))::(10001,(.box 166 [(.ptr 10002 0)]))::(Sa q w z B D F)))
abbrev f390:=λG l q w z B D F=>dec (E67r l q w z B D F) (Rn 226 [(aB G),(.ptr 10000 0),(.ptr 10001 0)] ((10000,(.box 166 [(.ptr 10002 0)]))::(10001,(.box 3 [(aB l)]))::(Sa q w z B D F)))
abbrev YR (l:List aA) (q:List dX) (w:List ((List UInt8)×Int)) (z:List (List UInt8)) (B:List Int) (D:List (List c8)):=eZ Q36 (dS 10000 (.box 171 [(aN l),(cZ q),(.row 10001),(.row 10002),(.row 10003),(.row 10004)]) (dS 10001 (iz w) (dS 10002 (dP z) (dS 10003 (cI B) (dS 10004 (eE D) dZ)))))
abbrev f377:=λF l q w z B D=>dec (YR l q w z B D) (Rn 227 [(.ptr 10000 0),(aB F)] (tl3 l q w z B D))
abbrev Oo:=λL G I K F l q w z B D=>hx (YR l q w z B D) 227 4 [10000,10001,10002,10003,10004] [(1,(aB L)),fM 2,fM 5,(6,(.cl 264 [.p 2, .p 5])),(16,(aN G)),(17,(aB I)),(18,(aB K))] ((2,(.box 166 [(.ptr 10000 0)]))::(5,(.box 256 [(.row 11)]))::(11,(tB F))::(tl3 l q w z B D))
abbrev Oq:=λQ G I K L N O R F l q w z B D=>hx (YR l q w z B D) 227 8 [10000,10001,10002,10003,10004] [(1,(aB Q)),fM 2,fM 5,(6,(.cl 264 [.p 2, .p 5])),(16,(aN G)),(17,(aB I)),(18,(aB K)),(36,(iT L)),(37,(aB N)),(38,(aB O))] ((2,(.box 166 [(.ptr 10000 0)]))::(5,(.box 256 [(.row 11)]))::(8,(lJ R))::(11,(tB F))::(tl3 l q w z B D))
abbrev f18:=λq l=>rn Q5 228 [(cZ q),(gP l)]
abbrev f140:=λq l=>rn Q0 253 [(Ch q),(YL l)]
abbrev JG:=λw l q=>hd Q0 253 4 [(0,(Ch w)),(1,(YL l)),(5,(aB q))] []
abbrev E384r (l:bS):=eZ Q5 (dS 10000 (nE l) dZ)
abbrev f384:=λq l=>dec (E384r l) (Rn 262 [(iT q),(.cl 223 [.p 10000])] [(10000,(nE l))])
abbrev ZV:=λq (l:List UInt8)=>rn Q5 262 [(iT q),(.pv (.fn 263 [(.ref [(.str l)])]))]
abbrev Ot:=λq w z l=>hx (E384r l) 262 2 [10000] [(0,(iT q)),(1,(.cl 223 [.p 10000])),(7,(aB w)),(8,(aB z))] [(10000,(nE l))]
abbrev G6:=λq (l:List UInt8) w z=>hd Q5 262 2 [(0,(iT q)),(1,(.pv (.fn 263 [(.ref [(.str l)])]))),(7,(aB w)),(8,(aB z))] []
abbrev f389:=λq (l:List UInt8)=>rn Q0 263 [(zY q),(.pv (.ref [(.str l)]))]
abbrev E385r (l:List aA) (q:List dX) (w:List ((List UInt8)×Int)) (z:List (List UInt8)) (B:List Int) (D:List (List c8)):=eD Q18 (dT 10000 (.box 166 [(.ptr 10002 0)]) (dT 10001 (.box 256 [(.row 10003)]) (dT 10002 (.box 171 [(aN l),(cZ q),(.row 10004),(.row 10005),(.row 10006),(.row 10007)]) (dJ 10003 (iM 9 110 V9 Pv) (dS 10004 (iz w) (dS 10005 (dP z) (dS 10006 (cI B) (dS 10007 (eE D) dZ))))))))
abbrev f385:=λG l q F w z B D=>dec (E385r l q w z B D) (Rn 264 [(zY G),(.ptr 10000 0),(.ptr 10001 0)] [(10000,(.box 166 [(.ptr 10002 0)])),(10001,(.box 256 [(.row 10003)])),(10002,(.box 171 [(aN l),(cZ q),(.row 10004),(.row 10005),(.row 10006),(.row 10007)])),(10003,(tB F)),(10004,(iz w)),(10005,(dP z)),(10006,(cI B)),(10007,(eE D))])
abbrev E383r (l:List aA) (q:List dX) (w:List ((List UInt8)×Int)) (z:List (List UInt8)) (B:List Int) (D:List (List c8)):=eZ Q21 (dS 10000 (.box 171 [(aN l),(cZ q),(.row 10001),(.row 10002),(.row 10003),(.row 10004)]) (dS 10001 (iz w) (dS 10002 (dP z) (dS 10003 (cI B) (dS 10004 (eE D) dZ)))))
abbrev f383:=λF l q w z B D=>dec (E383r l q w z B D) (Rn 265 [(.ptr 10000 0),(Ch F)] (tl3 l q w z B D))
abbrev f159:=λl=>rn Q0 285 [(Wz l)]
abbrev f160:=λq l=>rn Q0 286 [(Wz q),(YL l)]
abbrev f166:=λl=>rn Q0 301 [(Wz l)]
abbrev f167:=λl=>rn Q0 302 [(Wz l)]
end
