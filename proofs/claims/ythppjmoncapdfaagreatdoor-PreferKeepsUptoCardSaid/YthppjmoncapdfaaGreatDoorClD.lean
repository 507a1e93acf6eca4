/- The functions and loops as plain ones, by program (decomp4.p. -/
import Derived.Test.YthppjmoncapdfaaGreatDoorClT
set_option linter.all false
set_option maxRecDepth 100000
namespace Go.Proofs.YthppjmoncapdfaaGreatDoor.cl
noncomputable section
open Go Go.AM
abbrev f393:=λw q l=>rn Q0 4 [(aP w),(fT q),(jg l)]
abbrev f394:=λw q l=>rn Q0 5 [(aP w),(fT q),(jg l)]
abbrev OD:=λl q w z B=>hd Q0 5 8 [(2,(jg l)),fF 4,fF 7,fF 8,(9,(aC q))] [(4,(bG w)),(7,(b9 z)),(8,(bG B))]
abbrev f395:=λw q l=>rn Q0 6 [(aP w),(fT q),(jg l)]
abbrev Cx:=λl q w z B D F=>hd Q0 6 8 [(2,(jg l)),fF 4,fF 7,fF 8,fF 9,(10,(Y1 q)),(11,(aC w))] [(4,(bG z)),(7,(b9 B)),(8,(bG D)),(9,(bG F))]
abbrev f396:=λl f1=>rn Q0 7 [(aP l),(fT f1)]
abbrev OE:=λq l w z=>hd Q0 7 8 [fF 3,fF 5,(6,(jg q)),(7,(aC l))] [(3,(bG w)),(5,(b9 z))]
abbrev f397:=λw q l=>rn Q0 8 [(aP w),(fT q),(jg l)]
abbrev JY:=λl q w z=>hd Q0 8 8 [(2,(jg l)),fF 7,fF 8,(9,(aC q))] [(7,(b9 w)),(8,(bG z))]
abbrev Hl:=λl z w q B D=>hd Q0 8 12 [(2,(jg l)),fF 7,fF 8,(9,(aC z)),(10,(jg w)),(11,(aC q))] [(7,(b9 B)),(8,(bG D))]
abbrev f399:=rn Q0 10 []
abbrev f400:=λl=>rn Q1 12 [(fT l)]
abbrev OF:=λl q w z B=>hd Q1 12 3 [fF 1,vS 3,(12,(A9 l)),(13,(aC q)),(14,(aC w))] [(1,(bG z)),(3,(Bb B))]
abbrev OG:=λl q w z B=>hd Q1 12 9 [vS 3,fF 6,(36,(Gb l)),(37,(aC q)),(38,(aC w))] [(3,(Bb z)),(6,(b9 B))]
abbrev f401:=λl=>rn Q1 13 [(fT l)]
abbrev OH:=λl q w z=>hd Q1 13 4 [fF 1,vS 3,(4,(A9 l)),(5,(aC q))] [(1,(bG w)),(3,(Bb z))]
abbrev OI:=λq l w=>hd Q1 13 9 [vS 3,(6,(Gb q)),(7,(aC l))] [(3,(Bb w))]
abbrev f403:=λl=>rn Q2 14 [(aP l)]
abbrev f404:=λw q l=>rn Q0 15 [(de w),(fT q),(jg l)]
abbrev OJ:=λl q w=>hd Q0 15 4 [(2,(jg l)),fF 3,(7,(aC q))] [(3,(b9 w))]
abbrev f407:=λl q=>rn Q0 16 [(fT l),(fT q)]
abbrev f405:=λw q l=>rn Q3 17 [(de w),(fT q),(jg l)]
abbrev Fh:=λq w z B l=>hd Q3 17 4 [fF 6,(7,(.ptr 16 0)),(8,(.cl 1000043 [.p 16])),(19,(jg q)),(20,(aC w)),(21,(aC z))] [(6,(bG B)),(16,(zS l))]
abbrev OL:=λq w z B D F G l=>hd Q3 17 8 [fF 6,(7,(.ptr 16 0)),(8,(.cl 1000043 [.p 16])),(19,(jg q)),(20,(aC w)),(21,(aC z)),(29,(jg B)),(30,(aC D)),(31,(aC F))] [(6,(bG G)),(16,(zS l))]
abbrev f406:=λw q l=>rn Q3 18 [(de w),(fT q),(jg l)]
abbrev U9:=λl q w z B D=>hd Q3 18 3 [(2,(jg l)),fF 3,fF 6,fF 7,(8,(aC q))] [(3,(b9 w)),(4,(bG z)),(6,(bG B)),(7,(bG D))]
abbrev Bg:=λl q w z B D F=>hd Q3 18 3 [(2,(jg l)),fF 3,fF 6,fF 7,(8,(aC q))] [(3,(b9 w)),(4,(bG z)),(6,(bG B)),(7,(bG D)),(9,(bG F))]
abbrev Ej:=λl w z B D F G q=>hd Q3 18 3 [(2,(jg l)),fF 3,fF 6,fF 7,(8,(aC w))] [(3,(b9 z)),(4,(bG B)),(6,(bG D)),(7,(bG F)),(9,(bG G)),(13,(bG q))]
abbrev Ei:=λl w q k12 z B D F G=>hd Q3 18 10 [(2,(jg l)),fF 3,fF 6,fF 7,(8,(aC w)),(11,(jg q)),(12,(aC k12))] [(3,(b9 z)),(4,(bG B)),(6,(bG D)),(7,(bG F)),(9,(bG G))]
abbrev rO:=λl z q k12 B D F G I w=>hd Q3 18 10 [(2,(jg l)),fF 3,fF 6,fF 7,(8,(aC z)),(11,(jg q)),(12,(aC k12))] [(3,(b9 B)),(4,(bG D)),(6,(bG F)),(7,(bG G)),(9,(bG I)),(13,(bG w))]
abbrev f419:=λw l q=>rn Q9 19 [(de w),(fT l),(fT q)]
abbrev f412:=λw l q=>rn Q0 20 [(de w),(fT l),(fT q)]
abbrev f408:=λl f1=>rn Q0 21 [(de l),(fT f1)]
abbrev f409:=λl=>rn Q4 22 [(fT l)]
abbrev JZ:=λl q w z=>hd Q4 22 4 [fF 1,(3,(A9 l)),vS 4,(5,(aC q))] [(1,(bG w)),(4,(rJ z))]
abbrev J1:=λl z w q B D=>hd Q4 22 8 [fF 1,(3,(A9 l)),vS 4,(5,(aC z)),(6,(fk w)),(7,(aC q))] [(1,(bG B)),(4,(rJ D))]
abbrev f420:=λl q=>rn Q9 23 [(de l),(jg q)]
abbrev Va:=λl q w z B D=>hd Q9 23 5 [fF 2,fF 4,fF 6,(19,(jg l)),(20,(aC q)),(21,(aC w))] [(2,(b9 z)),(4,(bG B)),(6,(bG D))]
abbrev Hp:=λl q w z B D F=>hd Q9 23 5 [fF 2,fF 4,fF 6,(19,(jg l)),(20,(aC q)),(21,(aC w))] [(2,(b9 z)),(4,(bG B)),(6,(bG D)),(9,(bG F))]
abbrev f410:=λl f1=>rn Q5 24 [(de l),(fT f1)]
abbrev J4:=λl q w z=>hd Q5 24 5 [fF 2,fF 3,fF 5,(7,(aC l))] [(2,(b9 q)),(3,(bG w)),(5,(bG z))]
abbrev Ho:=λl q w z B D=>hd Q5 24 11 [fF 2,fF 3,fF 5,(7,(aC l)),fF 8,(9,(aC q))] [(2,(b9 w)),(3,(bG z)),(5,(bG B)),(8,(mb D))]
abbrev f411:=λl f1=>rn Q5 25 [(de l),(fT f1)]
abbrev OM:=λl q w z B=>hd Q5 25 5 [fF 2,fF 3,(19,(di l)),(20,(aC q)),(21,(aC w))] [(2,(b9 z)),(3,(bG B))]
abbrev ON:=λl q w z B D F G I=>hd Q5 25 8 [fF 2,fF 3,fF 7,(19,(di l)),(20,(aC q)),(21,(aC w)),(26,(fk z)),(27,(aC B)),(28,(aC D))] [(2,(b9 F)),(3,(bG G)),(7,(mb I))]
abbrev f413:=λl=>rn Q0 26 [(fT l)]
abbrev OO:=λl q=>hd Q0 26 4 [fF 1,(3,(aC l))] [(1,(bG q))]
abbrev f421:=λl=>rn Q10 27 [(fT l)]
abbrev f414:=λl=>rn Q3 28 [(aC l)]
abbrev f415:=λl=>rn Q6 29 [(fT l)]
abbrev f426:=λl f1=>rn Q3 30 [(fh l),(fT f1)]
abbrev OV:=λF q w z B D l=>hd Q3 30 3 [(0,(fh F)),fF 3,fF 4,fF 5,(13,(fh q)),(14,(aC w)),(15,(aC z))] (tl7 B D l)
abbrev Vb:=λF q w z B D l=>hd Q3 30 8 [(0,(fh F)),fF 4,fF 5,(33,(di q)),(34,(aC w)),(35,(aC z))] (tl7 B D l)
abbrev OU:=λQ B D F G I K L N O l q w z=>hd Q3 30 12 [(0,(fh Q)),fF 4,fF 5,fF 10,(33,(di B)),(34,(aC D)),(35,(aC F)),(43,(fk G)),(44,(aC I)),(45,(aC K))] [(3,(bG L)),(4,(bG N)),(5,(.box 24 [(.row 5080)])),(9,(mb O)),(10,(.box 52 [(aC l),(.row 5657)])),(5080,(fe q)),(5161,(iy w)),(5657,(iy z))]
abbrev f425:=λl=>rn Q3 31 [(aC l)]
abbrev f428:=λl=>rn Q2 32 [(aC l)]
abbrev OX:=λF G D B l q w z=>hd Q2 32 3 [fF 2,fF 3,(8,(aC F)),(9,(aC G))] [(2,(b9 D)),(3,(.box 90 [(Cn B),(.row 5113),(.row 5114)])),(5049,(dQ l)),(5050,(kT q)),(5113,(dQ w)),(5114,(kT z))]
abbrev f427:=λl=>rn Q5 33 [(fT l)]
abbrev J6:=λw B l q z=>hd Q5 33 3 [(3,(aC w)),(9,(di B)),(10,(aC l)),(11,(aC q))] [(1,(bG z))]
abbrev OW:=λD I l q w z B F G=>hd Q5 33 6 [(3,(aC D)),(9,(di I)),(10,(aC l)),(11,(aC q)),(16,(fk w)),(17,(aC z)),(18,(aC B))] [(1,(bG F)),(5,(mb G))]
abbrev f429:=λl=>rn Q4 34 [(fT l)]
abbrev J7:=λl q w z B D=>hd Q4 34 4 [(3,(A9 l)),vS 4,(13,(di q)),(14,(aC w)),(15,(aC z))] [(1,(bG B)),(4,(rJ D))]
abbrev J8:=λl G q w z B D F I K L=>hd Q4 34 7 [(3,(A9 l)),vS 4,(5,(aC G)),(13,(di q)),(14,(aC w)),(15,(aC z)),(21,(fk B)),(22,(aC D)),(23,(aC F))] [(1,(bG I)),(4,(rJ K)),(6,(mb L))]
abbrev f438:=λl f1 q w=>rn Q9 35 [(de l),(fT f1),(fh q),(fh w)]
abbrev f416:=λl=>rn Q6 36 [(fT l)]
abbrev J5:=λw z l q LG=>hd Q6 36 6 [fF 1,(3,(.row 12)),(4,(.row 16)),(5,(.row 19)),(6,(aC w))] [(1,(bG z)),(12,(JB l)),(16,(Gi q)),(19,(cK LG))]
abbrev Ek:=λw B z D l q LG=>hd Q6 36 10 [fF 1,(3,(.row 12)),(4,(.row 16)),(5,(.row 19)),(6,(aC w)),(7,(fk B)),(8,(aC z))] [(1,(bG D)),(12,(JB l)),(16,(Gi q)),(19,(cK LG))]
abbrev f430:=λl f1=>rn Q3 37 [(fh l),(fT f1)]
abbrev OZ:=λB q w z l=>hd Q3 37 3 [(0,(fh B)),fF 3,fF 4,fF 5,(6,(aC q))] (tl7 w z l)
abbrev Vc:=λB q w z l=>hd Q3 37 7 [(0,(fh B)),fF 3,fF 4,fF 5,(7,(aC q))] (tl7 w z l)
abbrev OY:=λI B D k10 F G z l q w=>hd Q3 37 12 [(0,(fh I)),fF 3,fF 4,fF 5,(7,(aC B)),fF 8,(9,(fk D)),(10,(aC k10))] [(3,(bG F)),(4,(bG G)),(5,(.box 24 [(.row 5080)])),(8,(.box 52 [(aC z),(.row 5705)])),(5080,(fe l)),(5129,(iy q)),(5705,(iy w))]
abbrev f439:=λl q=>rn Q3 38 [(fh l),(fh q)]
abbrev Bh:=λw z B D (q:List Node) (l:List (Option (List bY)))=>hd Q3 38 4 [(0,(fh w)),(1,(fh z)),fF 4,fF 5,(6,(aC B))] [(4,(bG D)),(5,(.box 24 [(.row 5080)])),(5080,(.rn 52 2 1 54 2 (List.map (jD Node.enc 1) q) (oV bY.enc l)))]
abbrev rP:=λw z D B F (q:List Node) (l:List (Option (List bY)))=>hd Q3 38 10 [(0,(fh w)),(1,(fh z)),fF 4,fF 5,(7,(aC D)),(8,(aC B))] [(4,(bG F)),(5,(.box 24 [(.row 5080)])),(5080,(.rn 52 2 1 54 2 (List.map (jD Node.enc 1) q) (oV bY.enc l)))]
abbrev f332:=λl=>rn Q7 39 [(aP l)]
abbrev Ol:=λw F B z D l q=>hd Q7 39 7 [(0,(aP w)),fF 2,(4,(DW F)),(6,(c7 B)),fF 8,(9,(aC z))] [(2,(b9 D)),(8,(.box 34 [(.row 5128),(.row 5129)])),(5128,(qa l)),(5129,(jS q))]
abbrev f327:=rn Q8 40 []
abbrev f417:=λl f1=>rn Q5 41 [(de l),(fT f1)]
abbrev OP:=λl q w=>hd Q5 41 5 [fF 2,fF 3,(6,(aC l))] [(2,(b9 q)),(3,(bG w))]
abbrev OQ:=λl w q z B=>hd Q5 41 9 [fF 2,fF 3,(6,(aC l)),(7,(fk w)),(8,(aC q))] [(2,(b9 z)),(3,(bG B))]
abbrev f418:=λl q=>rn Q5 42 [(fT l),(fT q)]
abbrev OR:=λq w l=>hd Q5 42 4 [(5,(fh q)),(6,(fh w)),(7,(aC l))] []
abbrev E483r:=eD Q0 (dJ 10000 (iB 74 result.enc) dZ)
abbrev f483:=λq l=>dec (E483r) (Rn 43 [(.ptr 10000 0),(fT q)] [(10000,(zS l))])
abbrev f431:=λw l q=>rn Q9 44 [(de w),(fT l),(fT q)]
abbrev f433:=λw l q=>rn Q9 45 [(de w),(fT l),(fT q)]
abbrev f434:=λl f1=>rn Q9 46 [(de l),(fT f1)]
abbrev O1:=λF G I K L N l q w z B D=>hd Q9 46 3 [fF 3,fF 4,(6,(.ptr 14 0)),(16,(di F)),(17,(aC G)),(18,(aC I))] (tl10 K L N l q w z B D)
abbrev Cy:=λF G I K l q w z B D=>hd Q9 46 9 [fF 3,fF 4,(6,(.ptr 14 0)),(9,(aC F))] (tl10 G I K l q w z B D)
abbrev Em:=λK L N O l q I w z B D F G=>hd Q9 46 15 [fF 4,(6,(.ptr 14 0)),fF 10,(72,(aC K)),(73,(aC L))] [(2,(b9 N)),(4,(bG O)),(10,(.box 24 [(.row 68)])),(14,(.box 123 [(ji l),(gY q),(.row 5210),(.row 5211)])),(68,(fe I)),(5160,(fe w)),(5208,(qa z)),(5209,(jS B)),(5210,(cK D)),(5211,(cK F)),(6104,(fe G))]
abbrev f423:=λw l q=>rn Q11 47 [(de w),(fT l),(fT q)]
abbrev OT:=λq w z B D l=>hd Q11 47 3 [fF 3,fF 4,fF 5,(8,(.row 20)),(22,(aC q)),(23,(aC w))] [(3,(b9 z)),(4,(bG B)),(5,(bG D)),(20,(cK l))]
abbrev El:=λl w z B D F G q=>hd Q11 47 10 [fF 3,fF 5,(8,(.row 20)),(10,(Y1 l)),(33,(di w)),(34,(aC z)),(35,(aC B))] [(3,(b9 D)),(4,(bG F)),(5,(bG G)),(20,(cK q))]
abbrev uA:=λl q B D F G I K L N O w z=>hd Q11 47 16 [fF 3,fF 5,(8,(.row 20)),(10,(Y1 l)),(13,(aC q)),(33,(di B)),(34,(aC D)),(35,(aC F)),(60,(fk G)),(61,(aC I)),(62,(aC K))] [(3,(b9 L)),(4,(bG N)),(5,(bG O)),(12,(mb w)),(20,(cK z))]
abbrev f445:=λl q=>rn Q0 48 [(fh l),(fh q)]
abbrev O8:=λq w l=>hd Q0 48 4 [(0,(fh q)),(1,(fh w)),(5,(aC l))] []
abbrev f422:=λl f1=>rn Q5 49 [(de l),(fT f1)]
abbrev OS:=λl q w z B D=>hd Q5 49 5 [fF 2,fF 3,fF 5,(20,(di l)),(21,(aC q)),(22,(aC w))] [(2,(b9 z)),(3,(bG B)),(5,(bG D))]
abbrev Hr:=λl q w z B D F G I K=>hd Q5 49 10 [fF 2,fF 3,fF 5,(20,(di l)),(21,(aC q)),(22,(aC w)),(33,(fk z)),(34,(aC B)),(35,(aC D))] [(2,(b9 F)),(3,(bG G)),(5,(bG I)),(8,(mb K))]
abbrev f355:=λl t1 f2=>rn Q19 50 [(de l),(aC t1),(aC f2)]
abbrev Ot:=λf2 l q w z=>hd Q19 50 2 [(2,(aC f2)),(15,(Jg l)),(16,(aC q)),(17,(aC w))] [(3,(b9 z))]
abbrev f339:=λw l q=>rn Q0 51 [(de w),(aC l),(aC q)]
abbrev f435:=λl=>rn Q5 52 [(fT l)]
abbrev O2:=λl q=>hd Q5 52 6 [fF 1,(3,(aC l))] [(1,(bG q))]
abbrev f436:=λq l=>rn Q3 53 [(fT q),(aC l)]
abbrev O3:=λB D F G l q w z=>hd Q3 53 3 [(1,(aC B)),fF 2,fF 4,(5,(.ptr 14 0)),(6,(aC D))] [(2,(bG F)),(4,(bG G)),(14,(.box 133 [(di l),(.row 5209),(.row 5210)])),(5208,(fe q)),(5209,(cK w)),(5210,(cK z))]
abbrev Fi:=λD F G l q w z B=>hd Q3 53 9 [fF 2,fF 4,(5,(.ptr 14 0)),fF 7,(8,(aC D))] [(2,(bG F)),(4,(bG G)),(7,(.box 24 [(.row 5112)])),(14,(.box 133 [(di l),(.row 5209),(.row 5210)])),(5112,(fe q)),(5208,(fe w)),(5209,(cK z)),(5210,(cK B))]
abbrev Eo:=λG D I K L l F q w z B=>hd Q3 53 14 [fF 2,fF 4,(5,(.ptr 14 0)),fF 7,(8,(aC G)),fF 9,(10,(.row 56)),(11,(aC D))] [(2,(bG I)),(4,(bG K)),(7,(.box 24 [(.row 5112)])),(9,(mb L)),(14,(.box 133 [(di l),(.row 5209),(.row 5210)])),(56,(iy F)),(5112,(fe q)),(5208,(fe w)),(5209,(cK z)),(5210,(cK B))]
abbrev f447:=λl=>rn Q20 55 [(aC l)]
abbrev f331:=λl=>rn Q7 56 [(aP l)]
abbrev Oj:=λl q G I K L F w z B D=>hd Q7 56 12 [fF 2,(6,(DW l)),(7,(c7 q)),fF 8,(40,(c7 G)),(41,(aC I)),(42,(aC K))] [(2,(b9 L)),(8,(.box 34 [(.row 5624),(gY F)])),(5128,(qa w)),(5129,(jS z)),(5624,(qa B)),(5625,(jS D))]
abbrev f460:=λl=>rn Q24 57 [(fh l)]
abbrev f484:=λl q=>rn Q0 58 [(fh l),(fh q)]
abbrev Ph:=λl q w z=>hd Q0 58 4 [(0,(fh l)),(1,(fh q)),(12,(aC w)),(13,(aC z))] []
abbrev Y8 (l:List gL) (q:List c8):=eD Q18 (dT 10000 (.box 98 [(ji l),(gY q),(.row 20001),(.row 20002),(.row 20003)]) (dI 20001 (iR 3 1 (cg .i64)) (dI 20002 (iR 3 1 (cg .i64)) (dJ 20003 (iR 50 1 (gV 2 bY.enc)) dZ))))
abbrev f442:=λD l q w z B=>dec (Y8 l q) (Rn 59 [(.ptr 10000 0),(di D)] (YN l q w z B))
abbrev Ka:=λI D F G l q w z B=>hx (Y8 l q) 59 2 [10000,20001,20002,20003] [(0,(.ptr 10000 0)),(4,(aC I)),(15,(di D)),(16,(aC F)),(17,(aC G))] (YN l q w z B)
abbrev O6:=λQ D F G I K L N O l q w z B=>hx (Y8 l q) 59 8 [10000,20001,20002,20003] [(0,(.ptr 10000 0)),(4,(aC Q)),vS 7,(15,(di D)),(16,(aC F)),(17,(aC G)),(46,(fk I)),(47,(aC K)),(48,(aC L))] ((6,(mb N))::(7,(iy O))::(YN l q w z B))
abbrev E443r (l:List gL) (q:List c8):=eD Q0 (dT 10000 (.box 98 [(ji l),(gY q),(.row 20001),(.row 20002),(.row 20003)]) (dI 20001 (iR 3 1 (cg .i64)) (dI 20002 (iR 3 1 (cg .i64)) (dJ 20003 (iR 50 1 (gV 2 bY.enc)) dZ))))
abbrev f443:=λD F l q w z B=>dec (E443r l q) (Rn 60 [(.ptr 10000 0),(aC D),(aC F)] (YN l q w z B))
abbrev yQ:=λF D l q w z B=>hx (E443r l q) 60 3 [10000,20001,20002,20003] [fF 3,fF 7,(8,(.cl 88 [.p 3, .p 7]))] ((3,(.box 95 [(.ptr 10000 0)]))::(7,(.box 138 [(.row 15)]))::(15,(jR F))::(5112,(jR D))::(YN l q w z B))
abbrev E444r (l:List gL) (q:List c8):=eD Q3 (dT 10000 (.box 98 [(ji l),(gY q),(.row 20001),(.row 20002),(.row 20003)]) (dI 20001 (iR 3 1 (cg .i64)) (dI 20002 (iR 3 1 (cg .i64)) (dJ 20003 (iR 50 1 (gV 2 bY.enc)) dZ))))
abbrev f444:=λD l q w z B=>dec (E444r l q) (Rn 61 [(.ptr 10000 0),(aC D)] (YN l q w z B))
abbrev O7:=λF I K L G D l q w z B=>hx (E444r l q) 61 3 [10000,20001,20002,20003] [(1,(aC F)),fF 2,fF 4,fF 5,(16,(aC I)),(17,(aC K))] ((2,(.box 95 [(.ptr 10000 0)]))::(4,(bG L))::(5,(.box 60 [(.row 14)]))::(14,(cK G))::(5080,(cK D))::(YN l q w z B))
abbrev f468:=λq l=>rn Q5 62 [(fk q),(aC l)]
abbrev Pd:=λw l q=>hd Q5 62 2 [(0,(fk w)),(1,(aC l)),(5,(aC q))] []
abbrev f323:=λl=>rn Q12 63 [(aP l)]
abbrev JQ:=λl w q B z=>hd Q12 63 8 [(0,(aP l)),(5,(c7 w)),(7,(dP q)),vS 8,(9,(aC B))] [(8,(eF z))]
abbrev Eh:=λw B z F l D q=>hd Q12 63 12 [(0,(aP w)),(5,(c7 B)),(7,(dP z)),vS 8,(9,(aC F)),vS 10,(11,(aC l))] [(8,(eF D)),(10,(Av q))]
abbrev f15:=λl=>rn Q13 64 [(aP l)]
abbrev W6:=λq l w z=>hd Q13 64 7 [(0,(aP q)),(5,(dP l)),vS 6,(7,(aC w))] [(6,(Au z))]
abbrev Cw:=λB q l D w z=>hd Q13 64 15 [(0,(aP B)),(5,(dP q)),(6,(ux l)),(8,(ux D)),(9,(c7 w)),(10,(aC z))] []
abbrev Og:=λF q l G w z D B=>hd Q13 64 19 [(0,(aP F)),(5,(dP q)),(6,(ux l)),(8,(ux G)),(9,(c7 w)),(10,(aC z)),fF 11,(12,(aC D))] [(11,(PR B))]
abbrev f28:=λq l=>rn Q15 65 [(c7 q),(aC l)]
abbrev Gq:=λw l q z=>hd Q15 65 3 [(0,(c7 w)),(1,(aC l)),vS 5,(6,(aC q))] [(5,(cK z))]
abbrev Gs:=λz q w l B D=>hd Q15 65 8 [(0,(c7 z)),(1,(aC q)),vS 5,(6,(aC w)),(7,(Y1 l)),(8,(aC B))] [(5,(cK D))]
abbrev f320:=λl=>rn Q17 66 [(aP l)]
abbrev Oi:=λl z q w B=>hd Q17 66 8 [(0,(aP l)),(5,(c7 z)),(7,(dP q)),vS 8,(9,(aC w))] [(8,(jS B))]
abbrev f351:=λw q l=>rn Q14 67 [(Cn w),(Cn q),(dP l)]
abbrev On:=λl G I D F q w z B=>hd Q14 67 5 [(2,(dP l)),fF 6,fF 7,(8,(aC G))] [(6,(lK I)),(7,(.box 90 [(Cn D),(.row 14),(.row 5162)])),(14,(dQ F)),(5113,(dQ q)),(5114,(kT w)),(5161,(dQ z)),(5162,(kT B))]
abbrev Hg:=λl F G D q w z B=>hd Q14 67 5 [(2,(dP l)),fF 6,fF 7,(8,(aC F))] [(6,(lK G)),(7,(.box 90 [(Cn D),(.row 5161),(.row 5162)])),(5113,(dQ q)),(5114,(kT w)),(5161,(dQ z)),(5162,(kT B))]
abbrev f356:=λl t1 f2=>rn Q19 68 [(de l),(aC t1),(aC f2)]
abbrev Ou:=λf2 q l=>hd Q19 68 3 [(2,(aC f2)),(8,(Jg q)),(9,(aC l))] []
abbrev f340:=λw l q=>rn Q0 69 [(de w),(aC l),(aC q)]
abbrev f432:=λl=>rn Q15 70 [(fT l)]
abbrev J9:=λq w l=>hd Q15 70 3 [fF 1,(3,(.row 10)),(4,(aC q))] [(1,(bG w)),(10,(cK l))]
abbrev O0:=λq z w B l=>hd Q15 70 8 [fF 1,(3,(.row 10)),(4,(aC q)),(5,(fk z)),(6,(aC w))] [(1,(bG B)),(10,(cK l))]
abbrev f440:=λw l q=>rn Q9 71 [(de w),(fT l),(fT q)]
abbrev f441:=λl f1=>rn Q9 72 [(de l),(fT f1)]
abbrev O5:=λl q w z B=>hd Q9 72 3 [fF 2,fF 3,fF 4,vS 6,(7,(aC l))] (tl11 q w z B)
abbrev wF:=λl q w z B=>hd Q9 72 7 [fF 2,fF 3,fF 4,vS 6,(8,(Y1 l))] (tl11 q w z B)
abbrev vV:=λl q w z B D=>hd Q9 72 10 [fF 2,fF 3,fF 4,vS 6,(9,(fh l)),(10,(aC q))] (tl11 w z B D)
abbrev vW:=λl q w k12 z B D F=>hd Q9 72 14 [fF 2,fF 3,fF 4,vS 6,(9,(fh l)),(10,(aC q)),(11,(fk w)),(12,(aC k12))] (tl11 z B D F)
abbrev Hs:=λq w z B l=>hd Q9 72 21 [fF 3,fF 4,vS 6,fF 13,(14,(aC q))] [(3,(bG w)),(4,(bG z)),(6,(cK B)),(13,(.box 24 [(.row 5208)])),(5208,(fe l))]
abbrev Vo (l:List gL) (q:List c8):=eD Q0 (dT 10000 (.box 123 [(ji l),(gY q),(.row 20001),(.row 20002)]) (dI 20001 (iR 3 1 (cg .i64)) (dJ 20002 (iR 3 1 (cg .i64)) dZ)))
abbrev f461:=λf1 B l q w z=>dec (Vo l q) (Rn 73 [(.ptr 10000 0),(fT f1),(aC B)] (tl4 l q w z))
abbrev Cz:=λG B D F I l q w z=>hx (Vo l q) 73 2 [10000,20001,20002] [(0,(.ptr 10000 0)),(2,(aC G)),fF 4,(18,(fk B)),(19,(aC D)),(20,(aC F))] ((4,(bG I))::(tl4 l q w z))
abbrev Fj:=λG B D F I l q w z=>hx (Vo l q) 73 8 [10000,20001,20002] [(0,(.ptr 10000 0)),(2,(aC G)),(44,(fk B)),(45,(aC D)),(46,(aC F))] ((4,(bG I))::(tl4 l q w z))
abbrev f462:=λl=>rn Q27 74 [(di l)]
abbrev f466:=λq l=>rn Q5 75 [(G6 q),(aC l)]
abbrev Pc:=λl z B q w=>hd Q5 75 2 [(1,(aC l)),(8,(fk z)),(9,(aC B)),(10,(aC q))] [(2,(mb w))]
abbrev f437:=λl=>rn Q10 76 [(fT l)]
abbrev O4:=λl q w z B=>hd Q10 76 6 [fF 1,fF 2,(18,(di l)),(19,(aC q)),(20,(aC w))] [(1,(bG z)),(2,(bG B))]
abbrev f446:=λl q=>rn Q0 77 [(fT l),(fT q)]
abbrev f63:=λl q=>rn Q0 78 [(gQ l),(gQ q)]
abbrev Xd:=λl q w z=>hd Q0 78 2 [(1,(gQ l)),(7,(gQ q)),(8,(aC w)),(9,(aC z))] []
abbrev f454:=λl q=>rn Q5 79 [(fk l),(aC q)]
abbrev Kf:=λq w l=>hd Q5 79 2 [(0,(fk q)),(1,(aC w)),(5,(aC l))] []
abbrev Kg:=λw z l q=>hd Q5 79 7 [(0,(fk w)),(1,(aC z)),(5,(aC l)),(6,(aC q))] []
abbrev E455r (l:List Node):=eD Q18 (dT 10000 (.box 133 [(di l),(.row 20001),(.row 20002)]) (dI 20001 (iR 3 1 (cg .i64)) (dJ 20002 (iR 3 1 (cg .i64)) dZ)))
abbrev f455:=λz l q w=>dec (E455r l) (Rn 80 [(.ptr 10000 0),(aC z)] [(10000,(.box 133 [(di l),(.row 20001),(.row 20002)])),(20001,(cK q)),(20002,(cK w))])
abbrev Kh:=λB z l q w=>hx (E455r l) 80 4 [10000,20001,20002] [(0,(.ptr 10000 0)),(4,(fk B)),(5,(aC z))] [(10000,(.box 133 [(di l),(.row 20001),(.row 20002)])),(20001,(cK q)),(20002,(cK w))]
abbrev f463:=λl=>rn Q28 81 [(fk l)]
abbrev yS:=λq l w=>hd Q28 81 3 [(0,(fk q)),vS 3,(4,(aC l))] [(3,(iy w))]
abbrev Ht:=λq l z w=>hd Q28 81 6 [(0,(fk q)),vS 3,(4,(aC l)),(5,(aC z))] [(3,(iy w))]
abbrev f459:=λl=>rn Q20 83 [(aC l)]
abbrev f319:=λl=>rn Q17 84 [(aP l)]
abbrev Oh:=λ(t4:Option table) l q w z=>hd Q17 84 6 [(4,(.pv (Ty table.enc t4))),vS 6,(20,(dP l)),(21,(aC q)),(22,(aC w))] [(6,(jS z))]
abbrev f322:=λl=>rn Q12 85 [(aP l)]
abbrev f14:=λl=>rn Q13 86 [(aP l)]
abbrev f27:=λq l=>rn Q15 87 [(c7 q),(aC l)]
abbrev E486r (l:List gL) (q:List c8):=eD Q0 (dT 10000 (.box 95 [(.ptr 10002 0)]) (dT 10001 (.box 138 [(.row 20003)]) (dT 10002 (.box 98 [(ji l),(gY q),(.row 20004),(.row 20005),(.row 20006)]) (dI 20003 (iR 137 2 dr.enc) (dI 20004 (iR 3 1 (cg .i64)) (dI 20005 (iR 3 1 (cg .i64)) (dJ 20006 (iR 50 1 (gV 2 bY.enc)) dZ)))))))
abbrev f486:=λF G l q w z B D=>dec (E486r l q) (Rn 88 [(aC F),(aC G),(.ptr 10000 0),(.ptr 10001 0)] (tl6 l q w z B D))
abbrev nj:=λI K G F l q w z B D=>hx (E486r l q) 88 8 [10000,10001,10002,20003,20004,20005,20006] [(0,(aC I)),(2,(.ptr 10000 0)),(3,(.ptr 10001 0)),(9,(fk K)),(10,(fk G)),vS 11] ((11,(iy F))::(tl6 l q w z B D))
abbrev f335:=λw l q=>rn Q19 89 [(de w),(aC l),(aC q)]
abbrev E485r (l:List gL) (q:List c8):=eD Q5 (dT 10000 (.box 98 [(ji l),(gY q),(.row 20001),(.row 20002),(.row 20003)]) (dI 20001 (iR 3 1 (cg .i64)) (dI 20002 (iR 3 1 (cg .i64)) (dJ 20003 (iR 50 1 (gV 2 bY.enc)) dZ))))
abbrev f485:=λD l q w z B=>dec (E485r l q) (Rn 90 [(.ptr 10000 0),(aC D)] (YN l q w z B))
abbrev Kk:=λD l q w z B=>hx (E485r l q) 90 1 [10000,20001,20002,20003] [(0,(.ptr 10000 0)),(1,(aC D))] (YN l q w z B)
abbrev E487r (l:List gL) (q:List c8):=eD Q5 (dT 10000 (.box 95 [(.ptr 10004 0)]) (dT 10001 (.box 60 [(.row 20005)]) (dT 10002 (.box 24 [(.row 20006)]) (dT 10003 (.box 139 [(.cl 91 [.p 10000, .p 10001, .p 10002, .p 10003])]) (dT 10004 (.box 98 [(ji l),(gY q),(.row 20007),(.row 20008),(.row 20009)]) (dI 20005 (iR 3 1 (cg .i64)) (dI 20006 (iR 52 2 Node.enc) (dI 20007 (iR 3 1 (cg .i64)) (dI 20008 (iR 3 1 (cg .i64)) (dJ 20009 (iR 50 1 (gV 2 bY.enc)) dZ))))))))))
abbrev f487:=λG l q w z B D F=>dec (E487r l q) (Rn 91 [(aC G),(.ptr 10000 0),(.ptr 10001 0),(.ptr 10002 0),(.ptr 10003 0)] (tl5 l q w z B D F))
abbrev Pj:=λN G I K L l q w z B D F=>hx (E487r l q) 91 9 [10000,10001,10002,10003,10004,20005,20006,20007,20008,20009] [(3,(.ptr 10002 0)),(4,(.ptr 10003 0)),(7,(aC N)),vS 8,(49,(fk G)),(50,(aC I)),(51,(aC K))] ((8,(iy L))::(tl5 l q w z B D F))
abbrev f318:=λl=>rn Q5 92 [(aP l)]
abbrev He:=λl z q w=>hd Q5 92 11 [(0,(aP l)),(3,(c7 z)),(5,(dP q)),(7,(aC w))] []
abbrev Ef:=λq z w l=>hd Q5 92 17 [(0,(aP q)),(3,(c7 z)),(5,(dP w)),(10,(aC l))] []
abbrev Eg:=λw B z q l=>hd Q5 92 20 [(0,(aP w)),(3,(c7 B)),(5,(dP z)),(10,(aC q)),(11,(aC l))] []
abbrev f345:=λl=>rn Q16 93 [(aP l)]
abbrev JS:=λq l w=>hd Q16 93 3 [(0,(aP q)),(3,(dP l)),(4,(aC w))] []
abbrev Om:=λq l w z=>hd Q16 93 6 [(0,(aP q)),(3,(dP l)),(4,(aC w)),(5,(aC z))] []
abbrev f370:=λq w t2 l=>rn Q26 94 [(aP q),(c7 w),(aC t2),(Cn l)]
abbrev Fg:=λB D t2 q w l z=>hd Q26 94 4 [(0,(aP B)),(1,(c7 D)),(2,(aC t2)),(3,(Cn q)),(10,(Y1 w)),(11,(gQ l)),(12,(aC z))] []
abbrev f19:=λq l=>rn Q5 95 [(c7 q),(gQ l)]
abbrev W7:=λq w l=>hd Q5 95 3 [(0,(c7 q)),(5,(gQ w)),(6,(aC l))] []
abbrev f32:=λl=>rn Q5 96 [(aP l)]
abbrev JR:=λl w q=>hd Q5 96 12 [(0,(aP l)),(6,(aC w)),(7,(aC q))] []
abbrev f52:=λl=>rn Q16 97 [(aP l)]
abbrev W9:=λq l w=>hd Q16 97 3 [(0,(aP q)),(3,(dP l)),(4,(aC w))] []
abbrev f53:=λw q l=>rn Q21 98 [(aP w),(dP q),(Cn l)]
abbrev Sf:=λl q w z=>hd Q21 98 4 [(1,(dP l)),(7,(dP q)),vS 8,(9,(aC w))] [(8,(cK z))]
abbrev f54:=λl=>rn Q22 99 [(ux l)]
abbrev LX:=λl q=>hd Q22 99 3 [(3,(.row 7)),(4,(aC l))] [(7,(Au q))]
abbrev LY:=λl q w=>hd Q22 99 6 [(3,(.row 7)),(4,(aC l)),(5,(aC q))] [(7,(Au w))]
abbrev f55:=λz q l w=>rn Q20 100 [(aP z),(dP q),(ux l),(gQ w)]
abbrev Sg:=λB q l z w D=>hd Q20 100 3 [(0,(aP B)),(1,(dP q)),(2,(ux l)),(3,(gQ z)),vS 9,(10,(aC w))] [(9,(dQ D))]
abbrev Fl:=λw q l=>hd Q20 100 12 [(9,(dP w)),(11,(Cn q)),(12,(aC l))] []
abbrev f56:=λl q=>rn Q0 101 [(RF l),(RF q)]
abbrev f25:=λw l q=>rn Q0 102 [(c7 w),(aC l),(aC q)]
abbrev f357:=λq l=>rn Q25 103 [(aP q),(Cn l)]
abbrev JV:=λw q l z=>hd Q25 103 3 [(0,(aP w)),(1,(Cn q)),(6,(dP l)),(7,(aC z))] []
abbrev f358:=λq l=>rn Q5 104 [(c7 q),(Cn l)]
abbrev Ov:=λw l q=>hd Q5 104 2 [(0,(c7 w)),(1,(Cn l)),(5,(aC q))] []
abbrev f65:=λl q=>rn Q0 105 [(gQ l),(gQ q)]
abbrev f448:=λl q=>rn Q23 106 [(di l),(di q)]
abbrev Kb:=λl q w z=>hd Q23 106 3 [(0,(di l)),(1,(di q)),(5,(.row 9)),(6,(aC w))] [(9,(fe z))]
abbrev O9:=λz B D F w G l q=>hd Q23 106 7 [(0,(di z)),(1,(di B)),(5,(.row 9)),(6,(aC D)),fF 7,(8,(aC F))] [(7,(.box 52 [(aC w),(.row 5369)])),(9,(fe G)),(5113,(iy l)),(5369,(iy q))]
abbrev f451:=λq l=>rn Q15 107 [(di q),(fh l)]
abbrev Ke:=λz D w B l q=>hd Q15 107 5 [(0,(di z)),(1,(fh D)),(5,(.row 20)),(6,(.row 23)),vS 7,(8,(aC w))] [(7,(jR B)),(20,(cK l)),(23,(ni q))]
abbrev sR:=λw z l q=>hd Q15 107 11 [(5,(.row 20)),(6,(.row 23)),vS 7,(9,(aC w))] [(7,(jR z)),(20,(cK l)),(23,(ni q))]
abbrev yR:=λB q l k12 D w z=>hd Q15 107 17 [(5,(.row 20)),(6,(.row 23)),vS 7,(9,(aC B)),(10,(aC q)),(11,(aC l)),(12,(aC k12))] [(7,(jR D)),(20,(cK w)),(23,(ni z))]
abbrev Ep:=λD q l k14 F z B w=>hd Q15 107 23 [(5,(.row 20)),(6,(.row 23)),vS 7,(9,(aC D)),(10,(aC q)),(11,(aC l)),(13,(.row 112)),(14,(aC k14))] [(7,(jR F)),(20,(cK z)),(23,(ni B)),(112,(iy w))]
abbrev f450:=λl q w=>rn Q15 108 [(fh l),(aC q),(aC w)]
abbrev Kc:=λq l w Yr=>hd Q15 108 5 [(7,(aC q)),(8,(aC l)),(9,(.row 29)),(10,(aC w))] [(29,(cK Yr))]
abbrev f449:=λl=>rn Q24 109 [(aC l)]
abbrev Pa:=λq l w=>hd Q24 109 3 [(0,(aC q)),vS 3,(4,(aC l))] [(3,(cK w))]
abbrev f452:=λq w l=>rn Q11 110 [(de q),(di w),(fh l)]
abbrev AF:=λw B q z l=>hd Q11 110 3 [(1,(di w)),(2,(fh B)),fF 3,(8,(.row 15)),(9,(aC q))] [(3,(b9 z)),(15,(cK l))]
abbrev Er:=λw z l q=>hd Q11 110 10 [(1,(di w)),(2,(fh z)),(8,(.row 15)),(12,(aC l))] [(15,(cK q))]
abbrev f453:=λz w l q=>rn Q3 111 [(di z),(fh w),(fh l),(aC q)]
abbrev Es:=λD G q z B F w l=>hd Q3 111 3 [(0,(di D)),(1,(fh G)),(2,(fh q)),(3,(aC z)),fF 8,fF 9,(10,(aC B))] (tl8 F w l)
abbrev Bi:=λB F w z D q l=>hd Q3 111 7 [(0,(di B)),(1,(fh F)),(3,(aC w)),fF 8,fF 9,(11,(aC z))] (tl8 D q l)
abbrev AG:=λF I w B z D G q l=>hd Q3 111 11 [(0,(di F)),(1,(fh I)),(3,(aC w)),fF 8,fF 9,(11,(aC B)),(12,(aC z)),(13,(aC D))] (tl8 G q l)
abbrev E477r:=eR Q0 10000 3 1 (cg .i64)
abbrev f477:=λq w x3 l=>dec (E477r) (Rn 112 [(de q),(.row 10000),(aC w),(UO x3)] [(10000,(cK l))])
abbrev f471:=λl q=>rn Q0 113 [(fh l),(fh q)]
abbrev Pe:=λl q w=>hd Q0 113 2 [(0,(fh l)),(1,(fh q)),(5,(aC w))] []
abbrev f472:=λB t2 l q w z=>dec (Vo l q) (Rn 114 [(.ptr 10000 0),(aC B),(aC t2)] (tl4 l q w z))
abbrev f456:=λq l=>rn Q5 115 [(G6 q),(aC l)]
abbrev Ki:=λl w z B D q=>hd Q5 115 5 [(1,(aC l)),(5,(.row 11)),(13,(fk w)),(14,(aC z)),(15,(aC B))] [(2,(mb D)),(11,(Ro q))]
abbrev f457:=λq l=>rn Q3 116 [(fT q),(aC l)]
abbrev Kj:=λD F G I z B l q w=>hd Q3 116 8 [fF 2,fF 4,fF 5,fF 8,(22,(.row 5096)),(23,(aC D)),(24,(aC F))] [(2,(bG G)),(4,(bG I)),(5,(.box 204 [(.row 13)])),(6,(.box 60 [(.row 5096)])),(8,(.box 24 [(.row 20)])),(13,(vL z)),(20,(fe B)),(5096,(cK l)),(5128,(fe q)),(5336,(fe w))]
abbrev Et:=λN z G I K L O Q B D F l q w=>hd Q3 116 12 [fF 2,fF 4,fF 5,fF 8,(9,(aC N)),(10,(aC z)),(11,(.row 36)),(22,(.row 5096)),(23,(aC G)),(24,(aC I)),(38,(aC K)),(39,(aC L))] [(2,(bG O)),(4,(bG Q)),(5,(.box 204 [(.row 13)])),(6,(.box 60 [(.row 5096)])),(8,(.box 24 [(.row 20)])),(13,(vL B)),(20,(fe D)),(36,(iy F)),(5096,(cK l)),(5128,(fe q)),(5336,(fe w))]
abbrev f458:=λl q=>rn Q5 117 [(fT l),(fT q)]
abbrev f107:=λl q=>rn Q34 118 [(gQ l),(aC q)]
abbrev f344:=λl=>rn Q29 120 [(aP l)]
abbrev U7:=λl K L N I q w z B D F G=>hd Q29 120 6 [(4,(c7 l)),(6,(.ptr 23 0)),(24,(aP K)),(25,(aC L)),(26,(aC N))] [(21,(iD I)),(23,(.box 171 [(aP q),(c7 w),(.row 21),(.row 5355),(.row 5356),(.row 5357)])),(5352,(GK z)),(5353,(KW B)),(5355,(dQ D)),(5356,(cK F)),(5357,(eF G))]
abbrev f31:=λl q=>rn Q0 126 [(gQ l),(gQ q)]
abbrev f478:=λl=>rn Q5 132 [(fh l)]
abbrev AH:=λl q w z=>hd Q5 132 3 [(3,(aC l)),(6,(fh q)),(7,(aC w)),(8,(aC z))] []
abbrev f464:=λl q=>rn Q5 133 [(aC l),(aC q)]
abbrev f24:=λw l q=>rn Q0 136 [(c7 w),(aC l),(aC q)]
abbrev E67r (l:Int) (q:List aB) (w:List dY) (z:List ((List UInt8)×Int)) (B:List (List UInt8)) (D:List Int) (F:List (List dc)):=eZ Q0 (dS 10000 (.box 166 [(.ptr 10002 0)]) (dS 10001 (.box 3 [(aC l)]) (dS 10002 (.box 171 [(aP q),(c7 w),(.row 10003),(.row 10004),(.row 10005),(.row 10006)]) (dS 10003 (iD z) (dS 10004 (dQ B) (dS 10005 (cK D) (dS 10006 (eF F) dZ)))))))
abbrev f67a:=λG l q w z B D F=>dec (E67r l q w z B D F) (Rn 138 [(fh G),(.cl 226 [.p 10000, .p 10001])] ((10000,(.box 166 [(.ptr 10002 0)]))::(10001,(.box 3 [(aC l)]))::(Sl q w z B D F)))
abbrev f29:=λl q=>rn Q21 139 [(gQ l),(gQ q)]
abbrev Sd:=λz B q w l=>hd Q21 139 3 [(0,(gQ z)),(1,(gQ B)),(5,(.row 12)),(14,(aC q)),(15,(aC w))] [(12,(xq l))]
abbrev f353:=λq (l:List Int)=>rn Q5 140 [(ji q),(.pv (.fn 141 [(.ref [(.dK 1 (List.map (cg .u64) l))])]))]
abbrev Oo:=λq (l:List Int) w z=>hd Q5 140 2 [(0,(ji q)),(1,(.pv (.fn 141 [(.ref [(.dK 1 (List.map (cg .u64) l))])]))),(7,(aC w)),(8,(aC z))] []
abbrev f371:=λq (l:List Int)=>rn Q0 141 [(ac5 q),(.pv (.ref [(.dK 1 (List.map (cg .u64) l))]))]
abbrev f346:=λl=>rn Q5 142 [(aP l)]
abbrev JT:=λq l w=>hd Q5 142 3 [(0,(aP q)),(3,(dP l)),(4,(aC w))] []
abbrev JU:=λq l w B z=>hd Q5 142 7 [(0,(aP q)),(3,(dP l)),(4,(aC w)),(5,(iW B)),(6,(aC z))] []
abbrev Hf:=λq l w B z D=>hd Q5 142 12 [(0,(aP q)),(3,(dP l)),(4,(aC w)),(5,(iW B)),(6,(aC z)),(7,(aC D))] []
abbrev f98:=λl s1=>rn Q16 143 [(dP l),(Cn s1)]
abbrev Xi:=λl s1 w q=>hd Q16 143 3 [(0,(dP l)),(1,(Cn s1)),vS 5,(6,(aC w))] [(5,(dQ q))]
abbrev f373:=λq l=>rn Q25 144 [(Ga q),(Cn l)]
abbrev Oz:=λl q w=>hd Q25 144 2 [(1,(Cn l)),fF 2,(6,(aC q))] [(2,(lK w))]
abbrev f61:=λl q=>rn Q21 145 [(gQ l),(gQ q)]
abbrev Xc:=λl q w z=>hd Q21 145 3 [(0,(gQ l)),(1,(gQ q)),vS 5,(6,(aC w))] [(5,(xq z))]
abbrev f60:=λl=>rn Q21 146 [(gQ l)]
abbrev Xb:=λl q=>hd Q21 146 2 [(0,(gQ l)),(3,(aC q))] []
abbrev f57:=λl q=>rn Q0 147 [(gQ l),(gQ q)]
abbrev Xa:=λl q w=>hd Q0 147 4 [(0,(gQ l)),(1,(gQ q)),(5,(aC w))] []
abbrev f70:=λl=>rn Q5 148 [(aP l)]
abbrev Xf:=λl q=>hd Q5 148 4 [(0,(aP l)),(3,(aC q))] []
abbrev f71:=λl=>rn Q5 149 [(aP l)]
abbrev Xg:=λl q=>hd Q5 149 2 [(0,(aP l)),(3,(aC q))] []
abbrev f72:=λl=>rn Q5 150 [(aP l)]
abbrev Sh:=λl q=>hd Q5 150 2 [(0,(aP l)),(3,(aC q))] []
abbrev Xh:=λl q z w=>hd Q5 150 6 [(0,(aP l)),(3,(aC q)),(4,(dP z)),(5,(aC w))] []
abbrev f73:=λl=>rn Q16 151 [(aP l)]
abbrev Km:=λq l w=>hd Q16 151 3 [(0,(aP q)),vS 3,(4,(Y1 l))] [(3,(dQ w))]
abbrev Eu:=λw l q z B=>hd Q16 151 7 [(0,(aP w)),vS 3,(4,(Y1 l)),(5,(Cn q)),(6,(aC z))] [(3,(dQ B))]
abbrev f99:=λq l=>rn Q16 152 [(aP q),(Cn l)]
abbrev Si:=λq w l=>hd Q16 152 5 [(0,(aP q)),(5,(.row 15)),(6,(aC w))] [(15,(dQ l))]
abbrev LZ:=λq w z l=>hd Q16 152 8 [(0,(aP q)),(5,(.row 15)),(6,(aC w)),(7,(aC z))] [(15,(dQ l))]
abbrev Fo:=λl w q=>hd Q16 152 14 [(5,(.row 15)),(8,(dP l)),(9,(aC w))] [(15,(dQ q))]
abbrev f37:=λl s1=>rn Q0 153 [(dP l),(Cn s1)]
abbrev W8:=λq s1 l=>hd Q0 153 2 [(0,(dP q)),(1,(Cn s1)),(5,(aC l))] []
abbrev f100:=λl=>rn Q32 154 [(fh l)]
abbrev N8:=λq l w=>hd Q32 154 3 [(0,(fh q)),(4,(.row 6)),(5,(aC l))] [(6,(xq w))]
abbrev f101:=λq l=>rn Q0 155 [(ux q),(gQ l)]
abbrev N9:=λw l q=>hd Q0 155 2 [(0,(ux w)),(1,(gQ l)),(5,(aC q))] []
abbrev f102:=λl q=>rn Q0 156 [(gQ l),(gQ q)]
abbrev f103:=λl q=>rn Q0 157 [(gQ l),(aC q)]
abbrev f104:=λl q=>rn Q16 158 [(aP l),(dP q)]
abbrev Fe:=λq l w z=>hd Q16 158 4 [(0,(aP q)),vS 5,(6,(dP l)),(7,(aC w))] [(5,(dQ z))]
abbrev Ff:=λz q B w l k10 D=>hd Q16 158 9 [(0,(aP z)),vS 5,(6,(dP q)),(7,(aC B)),(8,(dP w)),(9,(Y1 l)),(10,(aC k10))] [(5,(dQ D))]
abbrev f105:=λl=>rn Q5 159 [(gQ l)]
abbrev f108:=λl q=>rn Q21 160 [(gQ l),(gQ q)]
abbrev Oa:=λl q w z=>hd Q21 160 3 [(0,(gQ l)),(1,(gQ q)),vS 5,(6,(aC w))] [(5,(xq z))]
abbrev f491:=λq l=>rn Q19 161 [(fk q),(aC l)]
abbrev Pk:=λw l q=>hd Q19 161 2 [(0,(fk w)),(1,(aC l)),(6,(aC q))] []
abbrev f336:=λw l q=>rn Q19 162 [(de w),(aC l),(aC q)]
abbrev f476:=λq w l=>rn Q19 163 [(fT q),(aC w),(aC l)]
abbrev Pf:=λl w q=>hd Q19 163 3 [(2,(aC l)),(8,(fk w)),(9,(aC q))] []
abbrev E488r (l:FSt):=eD Q18 (dT 10000 (.box 60 [(.row 20004)]) (dT 10001 (.box 204 [(.row 10005)]) (dT 10002 (bG l) (dT 10003 (.box 134 [(.cl 164 [.p 10000, .p 10001, .p 10002, .p 10003])]) (dI 20004 (iR 3 1 (cg .i64)) (dJ 10005 (iM 3 3 V3 V3) dZ))))))
abbrev f488:=λz l w q=>dec (E488r l) (Rn 164 [(aC z),(.ptr 10000 0),(.ptr 10001 0),(.ptr 10002 0),(.ptr 10003 0)] [(10000,(.box 60 [(.row 20004)])),(10001,(.box 204 [(.row 10005)])),(10002,(bG l)),(10003,(.box 134 [(.cl 164 [.p 10000, .p 10001, .p 10002, .p 10003])])),(20004,(cK w)),(10005,(vL q))])
abbrev Kl:=λz B Y0 l q w=>hx (E488r l) 164 3 [10000,10001,10002,10003,20004,10005] [(2,(.ptr 10001 0)),(4,(.ptr 10003 0)),vS 25,(26,(aC z)),(27,(aC B))] [(25,(iy Y0)),(10000,(.box 60 [(.row 20004)])),(10001,(.box 204 [(.row 10005)])),(10002,(bG l)),(10003,(.box 134 [(.cl 164 [.p 10000, .p 10001, .p 10002, .p 10003])])),(10005,(vL q)),(20004,(cK w))]
abbrev f490:=λ(l:List bY)=>rn Q28 165 [(.pv (.fn 214 [(.ref [(.dK 2 (List.map bY.enc l))])])),(.pv (.fn 167 []))]
abbrev f489:=λl=>rn Q33 166 [(fk l)]
abbrev f465:=λl q=>rn Q5 168 [(di l),(di q),(.pv (.fn 169 []))]
abbrev Pb:=λl q w z B=>hd Q5 168 2 [(0,(di l)),(1,(di q)),(2,(.pv (.fn 169 []))),(11,(di w)),(12,(aC z)),(13,(aC B))] []
abbrev f473:=λl q=>rn Q5 169 [(G6 l),(G6 q)]
abbrev f366:=λq (l:aB)=>rn Q5 171 [(c7 q),(.pv (.fn 172 [(.ref (aB.enc l))]))]
abbrev zq (l:List aB) (q:List dY):=eD Q5 (dT 10000 (.box 171 [(aP l),(c7 q),(.row 10001),(.row 20002),(.row 20003),(.row 20004)]) (dI 10001 (iM 9 3 V9 V3) (dI 20002 (iR 9 1 jv) (dI 20003 (iR 3 1 (cg .i64)) (dJ 20004 (iR 114 1 (gV 2 dc.enc)) dZ)))))
abbrev f367:=λl q w z B D=>dec (zq l q) (Rn 173 [(.ptr 10000 0)] (tl0 l q w z B D))
abbrev Ow:=λG I K F l q w z B D=>hx (zq l q) 173 3 [10000,10001,20002,20003,20004] [(0,(.ptr 10000 0)),(3,(.row 15)),(19,(aP G)),(20,(aC I)),(21,(aC K))] ((15,(vM F))::(tl0 l q w z B D))
abbrev Ox:=λG I K L N O Q F l q w z B D=>hx (zq l q) 173 6 [10000,10001,20002,20003,20004] [(0,(.ptr 10000 0)),(3,(.row 15)),(19,(aP G)),(20,(aC I)),(21,(aC K)),(26,(iW L)),(27,(aC N)),(28,(aC O))] ((5,(lK Q))::(15,(vM F))::(tl0 l q w z B D))
abbrev Hh:=λG I K F l q w z B D=>hx (zq l q) 173 14 [10000,10001,20002,20003,20004] [(0,(.ptr 10000 0)),(3,(.row 15)),(43,(aP G)),(44,(aC I)),(45,(aC K))] ((15,(vM F))::(tl0 l q w z B D))
abbrev Hi:=λG I K L N O Q F l q w z B D=>hx (zq l q) 173 17 [10000,10001,20002,20003,20004] [(0,(.ptr 10000 0)),(3,(.row 15)),fF 9,(43,(aP G)),(44,(aC I)),(45,(aC K)),(50,(iW L)),(51,(aC N)),(52,(aC O))] ((9,(lK Q))::(15,(vM F))::(tl0 l q w z B D))
abbrev f368:=λl q w z B D=>dec (zq l q) (Rn 174 [(.ptr 10000 0)] (tl0 l q w z B D))
abbrev Oy:=λF G l q w z B D=>hx (zq l q) 174 2 [10000,10001,20002,20003,20004] [fF 1,(10,(.row 20002)),(11,(aC F)),(12,(aC G))] ((1,(.box 166 [(.ptr 10000 0)]))::(tl0 l q w z B D))
abbrev f369:=λl q w z B D=>dec (zq l q) (Rn 175 [(.ptr 10000 0)] (tl0 l q w z B D))
abbrev U8:=λF G l q w z B D=>hx (zq l q) 175 2 [10000,10001,20002,20003,20004] [(0,(.ptr 10000 0)),(15,(aC F)),(16,(aC G))] (tl0 l q w z B D)
abbrev JW:=λ(w:List ((List UInt8)×(List Int))) G I K L N l q z B D F=>hx (zq l q) 175 7 [10000,10001,20002,20003,20004] [(0,(.ptr 10000 0)),vS 4,(5,(.pv (.mp (dO V9 PD w).1 (dO V9 PD w).2))),(15,(aC G)),(16,(aC I)),(25,(.row 20002)),(26,(aC K)),(27,(aC L))] ((4,(Av N))::(tl0 l q z B D F))
abbrev f469:=λl=>rn Q0 198 [(aC l)]
abbrev E109r (l:List Int) (q:List aB) (w:List dY) (z:List ((List UInt8)×Int)) (B:List (List UInt8)) (D:List Int) (F:List (List dc)):=eZ Q5 (dS 10000 (.box 60 [(fh l)]) (dS 10001 (.box 166 [(.ptr 10002 0)]) (dS 10002 (.box 171 [(aP q),(c7 w),(.row 10003),(.row 10004),(.row 10005),(.row 10006)]) (dS 10003 (iD z) (dS 10004 (dQ B) (dS 10005 (cK D) (dS 10006 (eF F) dZ)))))))
abbrev Pz (l:Int) (q:List aB) (w:List dY) (z:List ((List UInt8)×Int)) (B:List (List UInt8)) (D:List Int) (F:List (List dc)):=eZ Q5 (dS 10000 (.box 166 [(.ptr 10002 0)]) (dS 10001 (.box 3 [(aC l)]) (dS 10002 (.box 171 [(aP q),(c7 w),(.row 10003),(.row 10004),(.row 10005),(.row 10006)]) (dS 10003 (iD z) (dS 10004 (dQ B) (dS 10005 (cK D) (dS 10006 (eF F) dZ)))))))
abbrev aaa:=λG l q w z B D F=>dec (E109r l q w z B D F) (Rn 201 [(fh G),(.cl 225 [.p 10000, .p 10001])] ((10000,(.box 60 [(fh l)]))::(10001,(.box 166 [(.ptr 10002 0)]))::(Sl q w z B D F)))
abbrev aab:=λG l q w z B D F=>dec (Pz l q w z B D F) (Rn 201 [(fh G),(.cl 226 [.p 10000, .p 10001])] ((10000,(.box 166 [(.ptr 10002 0)]))::(10001,(.box 3 [(aC l)]))::(Sl q w z B D F)))
abbrev Oc:=λG I K l q w z B D F=>hx (E109r l q w z B D F) 201 2 [10000,10001,10002,10003,10004,10005,10006] [(0,(fh G)),(1,(.cl 225 [.p 10000, .p 10001])),(7,(aC I)),(8,(aC K))] ((10000,(.box 60 [(fh l)]))::(10001,(.box 166 [(.ptr 10002 0)]))::(Sl q w z B D F))
abbrev Od:=λG I K l q w z B D F=>hx (Pz l q w z B D F) 201 2 [10000,10001,10002,10003,10004,10005,10006] [(0,(fh G)),(1,(.cl 226 [.p 10000, .p 10001])),(7,(aC I)),(8,(aC K))] ((10000,(.box 166 [(.ptr 10002 0)]))::(10001,(.box 3 [(aC l)]))::(Sl q w z B D F))
abbrev f68:=λl=>rn Q21 202 [(gQ l)]
abbrev Xe:=λl q=>hd Q21 202 2 [(0,(gQ l)),(3,(aC q))] []
abbrev f372:=λl=>rn Q0 203 [(Cn l)]
abbrev f106:=λl q=>rn Q34 204 [(gQ l),(aC q)]
abbrev f110:=λl=>rn Q0 205 [(Cn l)]
abbrev f111:=λq l=>rn Q5 206 [(aP q),(Cn l)]
abbrev Oe:=λq l w=>hd Q5 206 2 [(0,(aP q)),(1,(Cn l)),(5,(aC w))] []
abbrev f112:=λq l=>rn Q0 207 [(Ga q),(dP l)]
abbrev Of:=λl q w=>hd Q0 207 2 [(1,(dP l)),fF 2,(5,(aC q))] [(2,(lK w))]
abbrev f137:=λl q=>rn Q16 208 [(aP l),(dP q)]
abbrev JL:=λq z l w=>hd Q16 208 3 [(0,(aP q)),(1,(dP z)),(5,(dP l)),(6,(aC w))] []
abbrev f138:=λq l=>rn Q16 209 [(aP q),(Cn l)]
abbrev JM:=λq w l=>hd Q16 209 5 [(0,(aP q)),(5,(.row 16)),(6,(aC w))] [(16,(dQ l))]
abbrev JN:=λq w B z l=>hd Q16 209 9 [(0,(aP q)),(5,(.row 16)),(6,(aC w)),(7,(dP B)),(8,(aC z))] [(16,(dQ l))]
abbrev Bf:=λl q w=>hd Q16 209 15 [(5,(.row 16)),(9,(dP l)),(10,(aC q))] [(16,(dQ w))]
abbrev f139:=λl=>rn Q15 210 [(gQ l)]
abbrev JO:=λl q w=>hd Q15 210 3 [(0,(gQ l)),vS 3,(4,(aC q))] [(3,(cK w))]
abbrev f354:=λq l=>rn Q19 211 [(de q),(gQ l)]
abbrev Oq:=λl q w=>hd Q19 211 2 [(1,(gQ l)),fF 2,(6,(aC q))] [(2,(b9 w))]
abbrev f479:=λl q=>rn Q5 215 [(fk l),(fk q),(.pv (.fn 216 []))]
abbrev Pg:=λl q w z B=>hd Q5 215 2 [(0,(fk l)),(1,(fk q)),(2,(.pv (.fn 216 []))),(11,(fk w)),(12,(aC z)),(13,(aC B))] []
abbrev f482:=λl q=>rn Q5 216 [(UO l),(UO q)]
abbrev f380:=λl=>rn Q0 221 [(Cn l)]
abbrev E381r (l:bT):=eZ Q0 (dS 10000 (nH l) dZ)
abbrev f381:=λq l=>dec (E381r l) (Rn 222 [(iW q),(.cl 223 [.p 10000])] [(10000,(nH l))])
abbrev aac:=λq (l:List UInt8)=>rn Q0 222 [(iW q),(.pv (.fn 263 [(.ref [(.str l)])]))]
abbrev f388:=λq l=>dec (E381r l) (Rn 223 [(Ah q),(.ptr 10000 0)] [(10000,(nH l))])
abbrev E376r (l:List aB) (q:List dY) (w:List ((List UInt8)×Int)) (z:List (List UInt8)) (B:List Int) (D:List (List dc)):=eZ Q15 (dS 10000 (.box 171 [(aP l),(c7 q),(.row 10001),(.row 10002),(.row 10003),(.row 10004)]) (dS 10001 (iD w) (dS 10002 (dQ z) (dS 10003 (cK B) (dS 10004 (eF D) dZ)))))
abbrev f376:=λF l q w z B D=>dec (E376r l q w z B D) (Rn 224 [(.ptr 10000 0),(Cn F)] (tl3 l q w z B D))
abbrev JX:=λ(F:List UInt8) G I K L l q w z B D=>hx (E376r l q w z B D) 224 3 [10000,10001,10002,10003,10004] [(0,(.ptr 10000 0)),(3,(.cp [(.str F)])),vS 5,(11,(aP G)),(12,(aC I)),(13,(aC K))] ((5,(cK L))::(tl3 l q w z B D))
abbrev E382r (l:List Int) (q:List aB) (w:List dY) (z:List ((List UInt8)×Int)) (B:List (List UInt8)) (D:List Int) (F:List (List dc)):=eZ Q0 (dS 10000 (.box 60 [(fh l)]) (dS 10001 (.box 166 [(.ptr 10002 0)]) (dS 10002 (.box 171 [(aP q),(c7 w),(.row 10003),(.row 10004),(.row 10005),(.row 10006)]) (dS 10003 (iD z) (dS 10004 (dQ B) (dS 10005 (cK D) (dS 10006 (eF F) dZ)))))))
abbrev f382:=λG l q w z B D F=>dec (E382r l q w z B D F) (Rn 225 [(aC G),(.ptr 10000 0),(.ptr 10001 0)] ((10000,(.box 60 [(fh l)]))::(10001,(.box 166 [(.ptr 10002 0)]))::(Sl q w z B D F)))
abbrev f390:=λG l q w z B D F=>dec (E67r l q w z B D F) (Rn 226 [(aC G),(.ptr 10000 0),(.ptr 10001 0)] ((10000,(.box 166 [(.ptr 10002 0)]))::(10001,(.box 3 [(aC l)]))::(Sl q w z B D F)))
abbrev Y7 (l:List aB) (q:List dY) (w:List ((List UInt8)×Int)) (z:List (List UInt8)) (B:List Int) (D:List (List dc)):=eZ Q36 (dS 10000 (.box 171 [(aP l),(c7 q),(.row 10001),(.row 10002),(.row 10003),(.row 10004)]) (dS 10001 (iD w) (dS 10002 (dQ z) (dS 10003 (cK B) (dS 10004 (eF D) dZ)))))
abbrev f377:=λF l q w z B D=>dec (Y7 l q w z B D) (Rn 227 [(.ptr 10000 0),(aC F)] (tl3 l q w z B D))
abbrev OA:=λL G I K F l q w z B D=>hx (Y7 l q w z B D) 227 4 [10000,10001,10002,10003,10004] [(1,(aC L)),fF 2,fF 5,(6,(.cl 264 [.p 2, .p 5])),(16,(aP G)),(17,(aC I)),(18,(aC K))] ((2,(.box 166 [(.ptr 10000 0)]))::(5,(.box 256 [(.row 11)]))::(11,(tI F))::(tl3 l q w z B D))
abbrev OB:=λQ G I K L N O R F l q w z B D=>hx (Y7 l q w z B D) 227 8 [10000,10001,10002,10003,10004] [(1,(aC Q)),fF 2,fF 5,(6,(.cl 264 [.p 2, .p 5])),(16,(aP G)),(17,(aC I)),(18,(aC K)),(36,(iW L)),(37,(aC N)),(38,(aC O))] ((2,(.box 166 [(.ptr 10000 0)]))::(5,(.box 256 [(.row 11)]))::(8,(lK R))::(11,(tI F))::(tl3 l q w z B D))
abbrev f18:=λq l=>rn Q5 228 [(c7 q),(gQ l)]
abbrev f140:=λq l=>rn Q0 253 [(Cn q),(Y1 l)]
abbrev JP:=λw l q=>hd Q0 253 4 [(0,(Cn w)),(1,(Y1 l)),(5,(aC q))] []
abbrev E384r (l:bT):=eZ Q5 (dS 10000 (nH l) dZ)
abbrev f384:=λq l=>dec (E384r l) (Rn 262 [(iW q),(.cl 223 [.p 10000])] [(10000,(nH l))])
abbrev aad:=λq (l:List UInt8)=>rn Q5 262 [(iW q),(.pv (.fn 263 [(.ref [(.str l)])]))]
abbrev OC:=λq w z l=>hx (E384r l) 262 2 [10000] [(0,(iW q)),(1,(.cl 223 [.p 10000])),(7,(aC w)),(8,(aC z))] [(10000,(nH l))]
abbrev Hj:=λq (l:List UInt8) w z=>hd Q5 262 2 [(0,(iW q)),(1,(.pv (.fn 263 [(.ref [(.str l)])]))),(7,(aC w)),(8,(aC z))] []
abbrev f389:=λq (l:List UInt8)=>rn Q0 263 [(Ah q),(.pv (.ref [(.str l)]))]
abbrev E385r (l:List aB) (q:List dY) (w:List ((List UInt8)×Int)) (z:List (List UInt8)) (B:List Int) (D:List (List dc)):=eD Q18 (dT 10000 (.box 166 [(.ptr 10002 0)]) (dT 10001 (.box 256 [(.row 10003)]) (dT 10002 (.box 171 [(aP l),(c7 q),(.row 10004),(.row 10005),(.row 10006),(.row 10007)]) (dJ 10003 (iM 9 110 V9 PD) (dS 10004 (iD w) (dS 10005 (dQ z) (dS 10006 (cK B) (dS 10007 (eF D) dZ))))))))
abbrev f385:=λG l q F w z B D=>dec (E385r l q w z B D) (Rn 264 [(Ah G),(.ptr 10000 0),(.ptr 10001 0)] [(10000,(.box 166 [(.ptr 10002 0)])),(10001,(.box 256 [(.row 10003)])),(10002,(.box 171 [(aP l),(c7 q),(.row 10004),(.row 10005),(.row 10006),(.row 10007)])),(10003,(tI F)),(10004,(iD w)),(10005,(dQ z)),(10006,(cK B)),(10007,(eF D))])
abbrev E383r (l:List aB) (q:List dY) (w:List ((List UInt8)×Int)) (z:List (List UInt8)) (B:List Int) (D:List (List dc)):=eZ Q21 (dS 10000 (.box 171 [(aP l),(c7 q),(.row 10001),(.row 10002),(.row 10003),(.row 10004)]) (dS 10001 (iD w) (dS 10002 (dQ z) (dS 10003 (cK B) (dS 10004 (eF D) dZ)))))
abbrev f383:=λF l q w z B D=>dec (E383r l q w z B D) (Rn 265 [(.ptr 10000 0),(Cn F)] (tl3 l q w z B D))
abbrev f159:=λl=>rn Q0 285 [(WM l)]
abbrev f160:=λq l=>rn Q0 286 [(WM q),(Y1 l)]
abbrev f166:=λl=>rn Q0 301 [(WM l)]
abbrev f167:=λl=>rn Q0 302 [(WM l)]
end
