/- The functions and loops as plain ones, by program (decomp8.p. -/
import Derived.Test.YthphfjcnkinkpaaGreatDoorClT
set_option linter.all false
set_option maxRecDepth 100000
namespace Go.Proofs.YthphfjcnkinkpaaGreatDoor.cl
noncomputable section
open Go Go.AM
abbrev f568:=λl=>rn Q2 3 [(Yq l)]
abbrev sN:=λF l z B D q w=>hd Q2 3 14 [gD 1,gD 3,(4,(dF F)),gD 8,gD 10,gD 12,(14,(aG l))] [(1,(Ze z)),(3,(dL B)),(8,(eN D)),(10,(eN q)),(12,(eN w))]
abbrev f403:=λl=>rn Q0 5 [(bC l)]
abbrev f498:=λq l=>rn Q1 6 [(cn q),(Yq l)]
abbrev f565:=λl=>rn Q2 7 [(kG l)]
abbrev Ro:=λl q=>hd Q2 7 4 [gD 1,(3,(aG l))] [(1,(kP q))]
abbrev f516:=λl=>rn Q2 8 [(cn l)]
abbrev f499:=rn Q2 9 []
abbrev f500:=λq w l=>rn Q3 10 [(cn q),(dF w),(kG l)]
abbrev Xt:=λl q=>rn Q3 11 [(cn l),(B6 q)]
abbrev f529:=λl=>rn Q3 11 [(cn l),(.pv (.dD 1 (List.map FSt.enc [])))]
abbrev f570:=λl q=>rn Q3 12 [(cn l),(B6 q)]
abbrev f430:=λq l=>rn Q9 13 [(eW q),(mS l)]
abbrev LR:=λB q w z l=>hd Q9 13 3 [(0,(eW B)),gD 3,gD 4,gD 5,(6,(aG q))] (tl8 w z l)
abbrev LS:=λB q w z l=>hd Q9 13 7 [(0,(eW B)),gD 3,gD 4,gD 5,(7,(aG q))] (tl8 w z l)
abbrev Js:=λK D F B G I z l q w=>hd Q9 13 12 [(0,(eW K)),gD 3,gD 4,gD 5,(7,(aG D)),gD 8,(9,(jY F)),(10,(aG B))] [(3,(eN G)),(4,(eN I)),(5,(.box 30 [(.row 5080)])),(8,(.box 71 [(aG z),(.row 5705)])),(5080,(dh l)),(5129,(gJ q)),(5705,(gJ w))]
abbrev f572:=λq l=>rn Q4 14 [(cn q),(ur l)]
abbrev f434:=λq l=>rn Q10 15 [(cn q),(mS l)]
abbrev QH:=λF G I K L N l q w z B D=>hd Q10 15 3 [gD 3,gD 4,(6,(.ptr 14 0)),(16,(dw F)),(17,(aG G)),(18,(aG I))] (tl11 K L N l q w z B D)
abbrev Cs:=λF G I K l q w z B D=>hd Q10 15 9 [gD 3,gD 4,(6,(.ptr 14 0)),(9,(aG F))] (tl11 G I K l q w z B D)
abbrev F1:=λK L N O l q I w z B D F G=>hd Q10 15 15 [gD 4,(6,(.ptr 14 0)),gD 10,(72,(aG K)),(73,(aG L))] [(2,(dL N)),(4,(eN O)),(10,(.box 30 [(.row 68)])),(14,(.box 94 [(eP l),(dU q),(.row 5210),(.row 5211)])),(68,(dh I)),(5160,(dh w)),(5208,(yw z)),(5209,(qH B)),(5210,(dP D)),(5211,(dP F)),(6104,(dh G))]
abbrev f407:=λl q=>rn Q2 16 [(mS l),(mS q)]
abbrev f332:=λl=>rn Q5 23 [(bC l)]
abbrev Qu:=λw F B z D l q=>hd Q5 23 7 [(0,(bC w)),gD 2,(4,(PL F)),(6,(gR B)),gD 8,(9,(aG z))] [(2,(dL D)),(8,(.box 36 [(.row 5128),(.row 5129)])),(5128,(yw l)),(5129,(qH q))]
abbrev f327:=rn Q6 24 []
abbrev f502:=λl=>rn Q2 25 [(oH l)]
abbrev QX:=λq l=>hd Q2 25 4 [(0,(oH q)),(3,(aG l))] []
abbrev f503:=λl=>rn Q2 26 [(kG l)]
abbrev f504:=λl q=>rn Q7 27 [(cn l),(oH q)]
abbrev L4:=λl q w=>hd Q7 27 5 [(1,(oH l)),gD 2,zl 7] [(2,(dL q)),(7,(fV w))]
abbrev F8:=λq l=>hd Q7 27 11 [zl 7,zl 10] [(7,(fV q)),(10,(fV l))]
abbrev AL:=λl q z w=>hd Q7 27 14 [zl 7,zl 10,(11,(aG l)),(12,(aG q))] [(7,(fV z)),(10,(fV w))]
abbrev f364:=λq l=>rn Q4 28 [(cn q),(ur l)]
abbrev QC:=λl q w=>hd Q4 28 2 [(1,(ur l)),gD 2,(5,(aG q))] [(2,(dL w))]
abbrev f365:=λq l=>rn Q4 29 [(cn q),(ur l)]
abbrev QD:=λl q w=>hd Q4 29 2 [(1,(ur l)),gD 2,(5,(aG q))] [(2,(dL w))]
abbrev f340:=λw l q=>rn Q2 30 [(cn w),(aG l),(aG q)]
abbrev f414:=λl=>dec (Er) (Rn 33 [(aG l)] [])
abbrev f505:=λl q=>dec (RJ) (Rn 34 [(cn l),(dF q)] [])
abbrev E506r (l:List fK) (q:List cO) (w:List Template):=eD Q3 (dI 10000 (iL 141 [(eP l),(dU q),(dF w),(.row 10001)] 2 Node.enc) (dJ 10001 (iM 9 51 V9 UH) dZ))
abbrev abC:=λD l q w z B=>dec (E506r l q w) (Rn 35 [(.ptr 10000 0),(kG D)] (tl0 l q w z B))
abbrev f541a:=λl q=>rn Q3 36 [(cn l),(B6 q),(.pv (.fn 37 []))]
abbrev f541:=λl=>rn Q3 36 [(cn l),(.pv (.dD 1 (List.map FSt.enc []))),(.pv (.fn 37 []))]
abbrev f551:=λl=>rn Q4 37 [(La l)]
abbrev f549:=λl=>rn Q8 38 [(cn l)]
abbrev Ni:=λq l=>rn Q2 39 [(B6 q),(aG l)]
abbrev f550:=λl=>rn Q2 39 [(.pv (.dD 1 (List.map FSt.enc []))),(aG l)]
abbrev Rj:=λl q w z=>hd Q2 39 2 [(1,(aG l)),(7,(B6 q)),(8,(aG w)),(9,(aG z))] []
abbrev WY:=λl q w=>hd Q2 39 2 [(1,(aG l)),(7,(.pv (.dD 1 (List.map FSt.enc [])))),(8,(aG q)),(9,(aG w))] []
abbrev Xv:=λw l q=>rn Q3 40 [(La w),(B6 l),(aG q)]
abbrev f552:=λq l=>rn Q3 40 [(La q),(.pv (.dD 1 (List.map FSt.enc []))),(aG l)]
abbrev YF:=λF q w z B D l=>hd Q3 40 3 [(2,(aG F)),gD 3,gD 6,gD 8,(12,(B6 q)),(13,(aG w)),(14,(aG z))] (tl7 B D l)
abbrev Rk:=λF q w z B D l=>hd Q3 40 3 [(2,(aG F)),gD 3,gD 6,gD 8,(12,(B6 q)),(13,(aG w)),(14,(aG z))] (tl7 B D l)
abbrev aej:=λD q w z B l=>hd Q3 40 3 [(2,(aG D)),gD 3,gD 6,gD 8,(12,(.pv (.dD 1 (List.map FSt.enc [])))),(13,(aG q)),(14,(aG w))] (tl7 z B l)
abbrev t552_3a:=λD q w z B l=>hd Q3 40 3 [(2,(aG D)),gD 3,gD 6,gD 8,(12,(.pv (.dD 1 (List.map FSt.enc [])))),(13,(aG q)),(14,(aG w))] (tl7 z B l)
abbrev f559:=λq l=>dec (Et) (Rn 41 [(.row 20000),(dw q)] [(20000,(dh l))])
abbrev L9:=λB q w z l=>hx (Et) 41 3 [20000] [(0,(.row 20000)),(5,(aG B)),(13,(dw q)),(14,(aG w)),(15,(aG z))] [(20000,(dh l))]
abbrev Rm:=λN B D F G I K L z q w l=>hx (Et) 41 7 [20000] [(0,(.row 20000)),(5,(aG N)),gD 8,(13,(dw B)),(14,(aG D)),(15,(aG F)),(23,(jY G)),(24,(aG I)),(25,(aG K))] [(7,(yG L)),(8,(.box 71 [(aG z),(.row 5337)])),(5129,(gJ q)),(5337,(gJ w)),(20000,(dh l))]
abbrev f437:=λl=>rn Q3 42 [(mS l)]
abbrev QK:=λl q w z B=>hd Q3 42 6 [gD 1,gD 2,(18,(dw l)),(19,(aG q)),(20,(aG w))] [(1,(eN z)),(2,(eN B))]
abbrev Xa (l:List fK) (q:List cO):=eD Q2 (dT 10000 (.box 94 [(eP l),(dU q),(.row 20001),(.row 20002)]) (dI 20001 (iR 3 1 (dO .i64)) (dJ 20002 (iR 3 1 (dO .i64)) dZ)))
abbrev f461:=λB D l q w z=>dec (Xa l q) (Rn 43 [(.ptr 10000 0),(mS B),(aG D)] (tl5 l q w z))
abbrev Ej:=λG B D F I l q w z=>hx (Xa l q) 43 2 [10000,20001,20002] [(0,(.ptr 10000 0)),(2,(aG G)),gD 4,(18,(jY B)),(19,(aG D)),(20,(aG F))] ((4,(eN I))::(tl5 l q w z))
abbrev CU:=λG B D F l q w z=>hx (Xa l q) 43 8 [10000,20001,20002] [(0,(.ptr 10000 0)),(2,(aG G)),(44,(jY B)),(45,(aG D)),(46,(aG F))] (tl5 l q w z)
abbrev f462:=λl=>rn Q24 44 [(dw l)]
abbrev f418:=λl q=>rn Q4 45 [(mS l),(mS q)]
abbrev QF:=λq w l=>hd Q4 45 4 [(5,(eW q)),(6,(eW w)),(7,(aG l))] []
abbrev f355:=λq w l=>rn Q20 48 [(cn q),(aG w),(aG l)]
abbrev Jq:=λz l q w=>hd Q20 48 2 [(2,(aG z)),(15,(Lb l)),(16,(aG q)),(17,(aG w))] []
abbrev f339:=λw l q=>rn Q2 49 [(cn w),(aG l),(aG q)]
abbrev f356:=λq w l=>rn Q20 52 [(cn q),(aG w),(aG l)]
abbrev Qz:=λl w q=>hd Q20 52 3 [(2,(aG l)),(8,(Lb w)),(9,(aG q))] []
abbrev f323:=λl=>rn Q12 54 [(bC l)]
abbrev LK:=λl w q B z=>hd Q12 54 8 [(0,(bC l)),(5,(gR w)),(7,(c9 q)),zl 8,(9,(aG B))] [(8,(y7 z))]
abbrev FZ:=λw B z F l D q=>hd Q12 54 12 [(0,(bC w)),(5,(gR B)),(7,(c9 z)),zl 8,(9,(aG F)),zl 10,(11,(aG l))] [(8,(y7 D)),(10,(Lw q))]
abbrev f15:=λl=>rn Q13 55 [(bC l)]
abbrev YB:=λq l w z=>hd Q13 55 7 [(0,(bC q)),(5,(c9 l)),zl 6,(7,(aG w))] [(6,(Cm z))]
abbrev Ei:=λB q l D w z=>hd Q13 55 15 [(0,(bC B)),(5,(c9 q)),(6,(vB l)),(8,(vB D)),(9,(gR w)),(10,(aG z))] []
abbrev Qr:=λF q l G w z D B=>hd Q13 55 19 [(0,(bC F)),(5,(c9 q)),(6,(vB l)),(8,(vB G)),(9,(gR w)),(10,(aG z)),gD 11,(12,(aG D))] [(11,(RZ B))]
abbrev f28:=λq l=>rn Q16 56 [(gR q),(aG l)]
abbrev Iu:=λw l q z=>hd Q16 56 3 [(0,(gR w)),(1,(aG l)),zl 5,(6,(aG q))] [(5,(dP z))]
abbrev Iv:=λz q w l B D=>hd Q16 56 8 [(0,(gR z)),(1,(aG q)),zl 5,(6,(aG w)),(7,(Z9 l)),(8,(aG B))] [(5,(dP D))]
abbrev f320:=λl=>rn Q17 57 [(bC l)]
abbrev Qt:=λl z q w B=>hd Q17 57 8 [(0,(bC l)),(5,(gR z)),(7,(c9 q)),zl 8,(9,(aG w))] [(8,(qH B))]
abbrev f351:=λw q l=>rn Q14 58 [(ur w),(ur q),(c9 l)]
abbrev Qw:=λl G I D F q w z B=>hd Q14 58 5 [(2,(c9 l)),gD 6,gD 7,(8,(aG G))] [(6,(rY I)),(7,(.box 124 [(ur D),(.row 14),(.row 5162)])),(14,(fZ F)),(5113,(fZ q)),(5114,(qm w)),(5161,(fZ z)),(5162,(qm B))]
abbrev Jo:=λl F G D q w z B=>hd Q14 58 5 [(2,(c9 l)),gD 6,gD 7,(8,(aG F))] [(6,(rY G)),(7,(.box 124 [(ur D),(.row 5161),(.row 5162)])),(5113,(fZ q)),(5114,(qm w)),(5161,(fZ z)),(5162,(qm B))]
abbrev f523:=λl=>rn Q2 59 [(PK l)]
abbrev Re:=λl q=>hd Q2 59 4 [gD 1,(3,(aG l))] [(1,(ES q))]
abbrev f509:=λq l=>rn Q2 60 [(kG q),(aG l)]
abbrev f510:=λl=>rn Q4 61 [(kG l)]
abbrev f511:=λl=>rn Q2 62 [(kG l)]
abbrev QY:=λl q=>hd Q2 62 4 [gD 1,(3,(aG l))] [(1,(kP q))]
abbrev f512:=λl=>rn Q4 63 [(oH l)]
abbrev QZ:=λq l=>hd Q4 63 2 [(0,(oH q)),(3,(aG l))] []
abbrev L5:=λq l=>hd Q4 63 7 [(0,(oH q)),(4,(aG l))] []
abbrev Jv:=λw l z q=>hd Q4 63 11 [(0,(oH w)),(4,(aG l)),(5,(c9 z)),(6,(aG q))] []
abbrev Jw:=λl q=>hd Q4 63 16 [(0,(oH l)),zl 7] [(7,(fV q))]
abbrev f527:=λq w l=>dec (Bq) (Rn 64 [(cn q),(.row 10000),(PK w)] [(10000,(fV l))])
abbrev L6:=λG I K L N q w z B D F l=>hx (Bq) 64 6 [10000] [(1,(.row 10000)),gD 3,gD 5,gD 6,gD 10,(11,(aG G))] ((3,(dL I))::(5,(ES K))::(tl12 L N q w z B D F l))
abbrev Gc:=λI G K L q w z B D F l=>hx (Bq) 64 14 [10000] [(1,(.row 10000)),gD 6,gD 10,(14,(c9 I)),(15,(aG G))] (tl12 K L q w z B D F l)
abbrev f526:=λq l=>rn Q4 65 [(dF q),(oH l)]
abbrev sM:=λz w l q=>hd Q4 65 3 [(0,(dF z)),(1,(oH w)),(5,(aG l)),(6,(aG q))] []
abbrev f515:=λq l=>rn Q4 66 [(dF q),(ur l)]
abbrev Ra:=λw l q=>hd Q4 66 2 [(0,(dF w)),(1,(ur l)),(5,(aG q))] []
abbrev f65:=λl q=>rn Q2 67 [(gN l),(gN q)]
abbrev E528r (l:List fK) (q:List cO) (w:List Template):=eD Q20 (dI 10000 (iL 141 [(eP l),(dU q),(dF w),(.row 10001)] 2 Node.enc) (dJ 10001 (iM 9 51 V9 UH) dZ))
abbrev SB:=λD l q w z B=>dec (E528r l q w) (Rn 70 [(.ptr 10000 0),(ur D)] (tl0 l q w z B))
abbrev MZ (l:List fK) (q:List cO) (w:List Template):=eD Q2 (dI 10000 (iL 141 [(eP l),(dU q),(dF w),(.row 10001)] 2 Node.enc) (dJ 10001 (iM 9 51 V9 UH) dZ))
abbrev Nf:=λD l q w z B=>dec (MZ l q w) (Rn 74 [(.ptr 10000 0),(kG D)] (tl0 l q w z B))
abbrev mj:=λD F G I l q w z B=>hx (MZ l q w) 74 14 [10000,10001] [gD 2,gD 3,(48,(c9 D)),(49,(aG F)),(50,(aG G))] ((2,(.box 78 [(.ptr 10000 0)]))::(3,(kP I))::(tl0 l q w z B))
abbrev oG:=λD F l q w z B=>dec (MZ l q w) (Rn 75 [(.ptr 10000 0),(kG D),(eW F)] (tl0 l q w z B))
abbrev f352:=λq l=>rn Q4 76 [(cn q),(ur l)]
abbrev f363:=λq l=>rn Q4 77 [(cn q),(ur l)]
abbrev QB:=λl z B q w=>hd Q4 77 2 [(1,(ur l)),(8,(dU z)),(9,(aG B)),(10,(aG q))] [(2,(dL w))]
abbrev f456:=λq l=>rn Q4 78 [(pg_Node q),(aG l)]
abbrev L0:=λl w z B D q=>hd Q4 78 5 [(1,(aG l)),(5,(.row 11)),(13,(jY w)),(14,(aG z)),(15,(aG B))] [(2,(yG D)),(11,(TA q))]
abbrev f457:=λq l=>rn Q9 79 [(mS q),(aG l)]
abbrev L1:=λD F G I z B l q w=>hd Q9 79 8 [gD 2,gD 4,gD 5,gD 8,(22,(.row 5096)),(23,(aG D)),(24,(aG F))] [(2,(eN G)),(4,(eN I)),(5,(.box 213 [(.row 13)])),(6,(.box 51 [(.row 5096)])),(8,(.box 30 [(.row 20)])),(13,(xE z)),(20,(dh B)),(5096,(dP l)),(5128,(dh q)),(5336,(dh w))]
abbrev F7:=λN z G I K L O Q B D F l q w=>hd Q9 79 12 [gD 2,gD 4,gD 5,gD 8,(9,(aG N)),(10,(aG z)),(11,(.row 36)),(22,(.row 5096)),(23,(aG G)),(24,(aG I)),(38,(aG K)),(39,(aG L))] [(2,(eN O)),(4,(eN Q)),(5,(.box 213 [(.row 13)])),(6,(.box 51 [(.row 5096)])),(8,(.box 30 [(.row 20)])),(13,(xE B)),(20,(dh D)),(36,(gJ F)),(5096,(dP l)),(5128,(dh q)),(5336,(dh w))]
abbrev f472:=λB D l q w z=>dec (Xa l q) (Rn 80 [(.ptr 10000 0),(aG B),(aG D)] (tl5 l q w z))
abbrev f432:=λl=>rn Q16 81 [(mS l)]
abbrev LU:=λq w l=>hd Q16 81 3 [gD 1,(3,(.row 10)),(4,(aG q))] [(1,(eN w)),(10,(dP l))]
abbrev QG:=λq z w B l=>hd Q16 81 8 [gD 1,(3,(.row 10)),(4,(aG q)),(5,(jY z)),(6,(aG w))] [(1,(eN B)),(10,(dP l))]
abbrev f436:=λq l=>rn Q9 83 [(mS q),(aG l)]
abbrev QJ:=λB D F G l q w z=>hd Q9 83 3 [(1,(aG B)),gD 2,gD 4,(5,(.ptr 14 0)),(6,(aG D))] [(2,(eN F)),(4,(eN G)),(14,(.box 223 [(dw l),(.row 5209),(.row 5210)])),(5208,(dh q)),(5209,(dP w)),(5210,(dP z))]
abbrev G7:=λD F G l q w z B=>hd Q9 83 9 [gD 2,gD 4,(5,(.ptr 14 0)),gD 7,(8,(aG D))] [(2,(eN F)),(4,(eN G)),(7,(.box 30 [(.row 5112)])),(14,(.box 223 [(dw l),(.row 5209),(.row 5210)])),(5112,(dh q)),(5208,(dh w)),(5209,(dP z)),(5210,(dP B))]
abbrev F2:=λG D I K L l F q w z B=>hd Q9 83 14 [gD 2,gD 4,(5,(.ptr 14 0)),gD 7,(8,(aG G)),gD 9,(10,(.row 56)),(11,(aG D))] [(2,(eN I)),(4,(eN K)),(7,(.box 30 [(.row 5112)])),(9,(yG L)),(14,(.box 223 [(dw l),(.row 5209),(.row 5210)])),(56,(gJ F)),(5112,(dh q)),(5208,(dh w)),(5209,(dP z)),(5210,(dP B))]
abbrev f63:=λl q=>rn Q2 85 [(gN l),(gN q)]
abbrev YJ:=λl q w z=>hd Q2 85 2 [(1,(gN l)),(7,(gN q)),(8,(aG w)),(9,(aG z))] []
abbrev f318:=λl=>rn Q4 94 [(bC l)]
abbrev Jl:=λl z q w=>hd Q4 94 11 [(0,(bC l)),(3,(gR z)),(5,(c9 q)),(7,(aG w))] []
abbrev FX:=λq z w l=>hd Q4 94 17 [(0,(bC q)),(3,(gR z)),(5,(c9 w)),(10,(aG l))] []
abbrev FY:=λw B z q l=>hd Q4 94 20 [(0,(bC w)),(3,(gR B)),(5,(c9 z)),(10,(aG q)),(11,(aG l))] []
abbrev f345:=λl=>rn Q15 95 [(bC l)]
abbrev LM:=λq l w=>hd Q15 95 3 [(0,(bC q)),(3,(c9 l)),(4,(aG w))] []
abbrev Qv:=λq l w z=>hd Q15 95 6 [(0,(bC q)),(3,(c9 l)),(4,(aG w)),(5,(aG z))] []
abbrev f370:=λq w z l=>rn Q26 96 [(bC q),(gR w),(aG z),(ur l)]
abbrev G5:=λB D F q w l z=>hd Q26 96 4 [(0,(bC B)),(1,(gR D)),(2,(aG F)),(3,(ur q)),(10,(Z9 w)),(11,(gN l)),(12,(aG z))] []
abbrev f19:=λq l=>rn Q4 97 [(gR q),(gN l)]
abbrev YC:=λq w l=>hd Q4 97 3 [(0,(gR q)),(5,(gN w)),(6,(aG l))] []
abbrev f32:=λl=>rn Q4 98 [(bC l)]
abbrev LL:=λl w q=>hd Q4 98 12 [(0,(bC l)),(6,(aG w)),(7,(aG q))] []
abbrev f52:=λl=>rn Q15 99 [(bC l)]
abbrev YE:=λq l w=>hd Q15 99 3 [(0,(bC q)),(3,(c9 l)),(4,(aG w))] []
abbrev f53:=λw q l=>rn Q19 100 [(bC w),(c9 q),(ur l)]
abbrev Up:=λl q w z=>hd Q19 100 4 [(1,(c9 l)),(7,(c9 q)),zl 8,(9,(aG w))] [(8,(dP z))]
abbrev f54:=λl=>rn Q21 101 [(vB l)]
abbrev N4:=λl q=>hd Q21 101 3 [(3,(.row 7)),(4,(aG l))] [(7,(Cm q))]
abbrev N5:=λl q w=>hd Q21 101 6 [(3,(.row 7)),(4,(aG l)),(5,(aG q))] [(7,(Cm w))]
abbrev f55:=λz q l w=>rn Q27 102 [(bC z),(c9 q),(vB l),(gN w)]
abbrev Uq:=λB q l z w D=>hd Q27 102 3 [(0,(bC B)),(1,(c9 q)),(2,(vB l)),(3,(gN z)),zl 9,(10,(aG w))] [(9,(fZ D))]
abbrev G9:=λw q l=>hd Q27 102 12 [(9,(c9 w)),(11,(ur q)),(12,(aG l))] []
abbrev f56:=λl q=>rn Q2 103 [(TX l),(TX q)]
abbrev f25:=λw l q=>rn Q2 104 [(gR w),(aG l),(aG q)]
abbrev f357:=λq l=>rn Q25 105 [(bC q),(ur l)]
abbrev LP:=λw q l z=>hd Q25 105 3 [(0,(bC w)),(1,(ur q)),(6,(c9 l)),(7,(aG z))] []
abbrev f358:=λq l=>rn Q4 106 [(gR q),(ur l)]
abbrev QA:=λw l q=>hd Q4 106 2 [(0,(gR w)),(1,(ur l)),(5,(aG q))] []
abbrev f110:=λl=>rn Q2 107 [(ur l)]
abbrev f524:=λw l q=>rn Q4 108 [(kG w),(aG l),(aG q)]
abbrev Rf:=λl q w z=>hd Q4 108 4 [(1,(aG l)),(2,(aG q)),gD 3,(7,(aG w))] [(3,(kP z))]
abbrev Gb:=λl q z w B=>hd Q4 108 10 [(1,(aG l)),(2,(aG q)),gD 3,(8,(aG z)),(9,(aG w))] [(3,(kP B))]
abbrev f525:=λq l=>rn Q4 109 [(kG q),(aG l)]
abbrev AN:=λl q w=>hd Q4 109 11 [gD 2,(5,(aG l)),(6,(aG q))] [(2,(kP w))]
abbrev f539:=λq l=>rn Q4 110 [(oH q),(ur l)]
abbrev Rg:=λw l q=>hd Q4 110 2 [(0,(oH w)),(1,(ur l)),(5,(aG q))] []
abbrev f546:=λl=>rn Q15 111 [(PK l)]
abbrev Rh:=λq w l=>hd Q15 111 3 [gD 1,(3,(.row 5121)),(4,(aG q))] [(1,(ES w)),(5121,(fZ l))]
abbrev Nd:=λw q l=>dec (Df) (Rn 112 [(cn w),(.row 10000),(kG q)] [(10000,(fV l))])
abbrev f548:=λq l=>dec (Es) (Rn 113 [(kG q),(.row 20000)] [(20000,(fZ l))])
abbrev G8:=λq w l=>hx (Es) 113 4 [20000] [(1,(.row 20000)),gD 2,(5,(aG q))] [(2,(kP w)),(20000,(fZ l))]
abbrev f547:=λl q=>rn Q2 114 [(dF l),(PK q)]
abbrev Ri:=λw q l=>hd Q2 114 3 [(0,(dF w)),(5,(c9 q)),(6,(aG l))] []
abbrev f108:=λl q=>rn Q19 115 [(gN l),(gN q)]
abbrev Qn:=λl q w z=>hd Q19 115 3 [(0,(gN l)),(1,(gN q)),zl 5,(6,(aG w))] [(5,(y8 z))]
abbrev f558:=λl q=>rn Q4 119 [(ur l),(ur q)]
abbrev f540:=λq l=>rn Q20 128 [(dF q),(ur l),(.pv (.fn 129 []))]
abbrev L8:=λB l z w q=>hd Q20 128 3 [(0,(dF B)),(1,(ur l)),(2,(.pv (.fn 129 []))),(8,(aG z)),(9,(aG w)),(10,(aG q))] []
abbrev f556:=λq l=>rn Q4 129 [(TY q),(ur l)]
abbrev E533r (l:List Int) (q:List fK) (w:List cO) (z:List Template):=eD Q2 (dT 10000 (.box 78 [(.ptr 10002 0)]) (dT 10001 (.box 51 [(eW l)]) (dI 10002 (iL 141 [(eP q),(dU w),(dF z),(.row 10003)] 2 Node.enc) (dJ 10003 (iM 9 51 V9 UH) dZ))))
abbrev Xb (l:List fK) (q:List cO) (w:List Template):=eD Q2 (dT 10000 (.box 78 [(.ptr 10001 0)]) (dI 10001 (iL 141 [(eP l),(dU q),(dF w),(.row 10002)] 2 Node.enc) (dJ 10002 (iM 9 51 V9 UH) dZ)))
abbrev f533b:=λ(F:List bJ) l q w z B D=>dec (E533r l q w z) (Rn 134 [(.pv (.dD 4 (List.map bJ.jD F))),(.cl 139 [.p 10000, .p 10001])] (YR l q w z B D))
abbrev Xu:=λ(D:List bJ) l q w z B=>dec (Xb l q w) (Rn 134 [(.pv (.dD 4 (List.map bJ.jD D))),(.cl 135 [.p 10000])] (tl3 l q w z B))
abbrev abE:=λD l q w z B=>dec (Xb l q w) (Rn 135 [(kG D),(.ptr 10000 0)] (tl3 l q w z B))
abbrev vY:=λD F l q w z B=>dec (MZ l q w) (Rn 136 [(.ptr 10000 0),(eW D),(aG F)] (tl0 l q w z B))
abbrev Ng:=λF D l q w z B=>dec (MZ l q w) (Rn 137 [(.ptr 10000 0),(eW F),(mS D)] (tl0 l q w z B))
abbrev Kh:=λD F l q w z B=>dec (MZ l q w) (Rn 138 [(.ptr 10000 0),(eW D),(eW F)] (tl0 l q w z B))
abbrev abD:=λF l q w z B D=>dec (E533r l q w z) (Rn 139 [(kG F),(.ptr 10000 0),(.ptr 10001 0)] (YR l q w z B D))
abbrev E534r (l:List fK) (q:List cO) (w:List Template):=eD Q16 (dI 10000 (iL 141 [(eP l),(dU q),(dF w),(.row 10001)] 2 Node.enc) (dJ 10001 (iM 9 51 V9 UH) dZ))
abbrev BU:=λF B l q w z D=>dec (E534r l q w) (Rn 140 [(.ptr 10000 0),(eW F),(c9 B)] (tl0 l q w z D))
abbrev Jy:=λF G I D l q w z B=>hx (E534r l q w) 140 3 [10000,10001] [(0,(.ptr 10000 0)),(7,(.row 11)),(12,(c9 F)),(13,(aG G)),(14,(aG I))] ((11,(dP D))::(tl0 l q w z B))
abbrev E535r (l:List fK) (q:List cO) (w:List Template):=eD Q11 (dI 10000 (iL 141 [(eP l),(dU q),(dF w),(.row 10001)] 2 Node.enc) (dJ 10001 (iM 9 51 V9 UH) dZ))
abbrev Nh:=λ(D:List bJ) F l q w z B=>dec (E535r l q w) (Rn 141 [(.ptr 10000 0),(.pv (.dD 4 (List.map bJ.jD D))),(eW F)] (tl0 l q w z B))
abbrev CV:=λI (D:List bJ) F G l q w z B=>hx (E535r l q w) 141 2 [10000,10001] [(0,(.ptr 10000 0)),(2,(eW I)),(10,(.pv (.dD 4 (List.map bJ.jD D)))),(11,(aG F)),(12,(aG G))] (tl0 l q w z B)
abbrev f353a:=λq (l:List UInt8)=>rn Q4 142 [(eP q),(.pv (.fn 143 [(.ref [(.str l)])]))]
abbrev f353:=λq (l:List Int)=>rn Q4 142 [(eP q),(.pv (.fn 203 [(.ref [(.dD 1 (List.map (dO .u64) l))])]))]
abbrev Jp:=λq (l:List UInt8) w z=>hd Q4 142 2 [(0,(eP q)),(1,(.pv (.fn 143 [(.ref [(.str l)])]))),(7,(aG w)),(8,(aG z))] []
abbrev Qx:=λq (l:List Int) w z=>hd Q4 142 2 [(0,(eP q)),(1,(.pv (.fn 203 [(.ref [(.dD 1 (List.map (dO .u64) l))])]))),(7,(aG w)),(8,(aG z))] []
abbrev f374:=λq (l:List UInt8)=>rn Q2 143 [(TZ q),(.pv (.ref [(.str l)]))]
abbrev E488r (l:FSt):=eD Q23 (dT 10000 (.box 51 [(.row 20004)]) (dT 10001 (.box 213 [(.row 10005)]) (dT 10002 (eN l) (dT 10003 (.box 214 [(.cl 144 [.p 10000, .p 10001, .p 10002, .p 10003])]) (dI 20004 (iR 3 1 (dO .i64)) (dJ 10005 (iM 3 3 V3 V3) dZ))))))
abbrev f488:=λz l w q=>dec (E488r l) (Rn 144 [(aG z),(.ptr 10000 0),(.ptr 10001 0),(.ptr 10002 0),(.ptr 10003 0)] [(10000,(.box 51 [(.row 20004)])),(10001,(.box 213 [(.row 10005)])),(10002,(eN l)),(10003,(.box 214 [(.cl 144 [.p 10000, .p 10001, .p 10002, .p 10003])])),(20004,(dP w)),(10005,(xE q))])
abbrev L3:=λz B o25 l q w=>hx (E488r l) 144 3 [10000,10001,10002,10003,20004,10005] [(2,(.ptr 10001 0)),(4,(.ptr 10003 0)),zl 25,(26,(aG z)),(27,(aG B))] [(25,(gJ o25)),(10000,(.box 51 [(.row 20004)])),(10001,(.box 213 [(.row 10005)])),(10002,(eN l)),(10003,(.box 214 [(.cl 144 [.p 10000, .p 10001, .p 10002, .p 10003])])),(10005,(xE q)),(20004,(dP w))]
abbrev f490:=λ(l:List b9)=>rn Q30 145 [(.pv (.fn 200 [(.ref [(.dD 2 (List.map b9.enc l))])])),(.pv (.fn 147 []))]
abbrev f489:=λl=>rn Q29 146 [(jY l)]
abbrev f335:=λw l q=>rn Q20 148 [(cn w),(aG l),(aG q)]
abbrev E455r (l:List Node):=eD Q23 (dT 10000 (.box 223 [(dw l),(.row 20001),(.row 20002)]) (dI 20001 (iR 3 1 (dO .i64)) (dJ 20002 (iR 3 1 (dO .i64)) dZ)))
abbrev f455:=λz l q w=>dec (E455r l) (Rn 150 [(.ptr 10000 0),(aG z)] [(10000,(.box 223 [(dw l),(.row 20001),(.row 20002)])),(20001,(dP q)),(20002,(dP w))])
abbrev LZ:=λB z l q w=>hx (E455r l) 150 4 [10000,20001,20002] [(0,(.ptr 10000 0)),(4,(jY B)),(5,(aG z))] [(10000,(.box 223 [(dw l),(.row 20001),(.row 20002)])),(20001,(dP q)),(20002,(dP w))]
abbrev f463:=λl=>rn Q30 151 [(jY l)]
abbrev AK:=λq l w=>hd Q30 151 3 [(0,(jY q)),zl 3,(4,(aG l))] [(3,(gJ w))]
abbrev Ju:=λq l z w=>hd Q30 151 6 [(0,(jY q)),zl 3,(4,(aG l)),(5,(aG z))] [(3,(gJ w))]
abbrev f107:=λl q=>rn Q28 153 [(gN l),(aG q)]
abbrev f476:=λq w l=>rn Q20 155 [(mS q),(aG w),(aG l)]
abbrev QU:=λl w q=>hd Q20 155 3 [(2,(aG l)),(8,(jY w)),(9,(aG q))] []
abbrev f346:=λl=>rn Q4 156 [(bC l)]
abbrev LN:=λq l w=>hd Q4 156 3 [(0,(bC q)),(3,(c9 l)),(4,(aG w))] []
abbrev LO:=λq l w B z=>hd Q4 156 7 [(0,(bC q)),(3,(c9 l)),(4,(aG w)),(5,(FB B)),(6,(aG z))] []
abbrev Jn:=λq l w B z D=>hd Q4 156 12 [(0,(bC q)),(3,(c9 l)),(4,(aG w)),(5,(FB B)),(6,(aG z)),(7,(aG D))] []
abbrev f98:=λl q=>rn Q15 157 [(c9 l),(ur q)]
abbrev YO:=λl w z q=>hd Q15 157 3 [(0,(c9 l)),(1,(ur w)),zl 5,(6,(aG z))] [(5,(fZ q))]
abbrev f373:=λq l=>rn Q25 158 [(H8 q),(ur l)]
abbrev QE:=λl q w=>hd Q25 158 2 [(1,(ur l)),gD 2,(6,(aG q))] [(2,(rY w))]
abbrev f61:=λl q=>rn Q19 159 [(gN l),(gN q)]
abbrev YI:=λl q w z=>hd Q19 159 3 [(0,(gN l)),(1,(gN q)),zl 5,(6,(aG w))] [(5,(y8 z))]
abbrev f60:=λl=>rn Q19 160 [(gN l)]
abbrev YH:=λl q=>hd Q19 160 2 [(0,(gN l)),(3,(aG q))] []
abbrev f57:=λl q=>rn Q2 161 [(gN l),(gN q)]
abbrev YG:=λl q w=>hd Q2 161 4 [(0,(gN l)),(1,(gN q)),(5,(aG w))] []
abbrev f70:=λl=>rn Q4 162 [(bC l)]
abbrev YL:=λl q=>hd Q4 162 4 [(0,(bC l)),(3,(aG q))] []
abbrev f71:=λl=>rn Q4 163 [(bC l)]
abbrev YM:=λl q=>hd Q4 163 2 [(0,(bC l)),(3,(aG q))] []
abbrev f72:=λl=>rn Q4 164 [(bC l)]
abbrev Ur:=λl q=>hd Q4 164 2 [(0,(bC l)),(3,(aG q))] []
abbrev YN:=λl q z w=>hd Q4 164 6 [(0,(bC l)),(3,(aG q)),(4,(c9 z)),(5,(aG w))] []
abbrev f73:=λl=>rn Q15 165 [(bC l)]
abbrev Ma:=λq l w=>hd Q15 165 3 [(0,(bC q)),zl 3,(4,(Z9 l))] [(3,(fZ w))]
abbrev Ge:=λw l q z B=>hd Q15 165 7 [(0,(bC w)),zl 3,(4,(Z9 l)),(5,(ur q)),(6,(aG z))] [(3,(fZ B))]
abbrev f99:=λq l=>rn Q15 166 [(bC q),(ur l)]
abbrev Us:=λq w l=>hd Q15 166 5 [(0,(bC q)),(5,(.row 15)),(6,(aG w))] [(15,(fZ l))]
abbrev N6:=λq w k7 l=>hd Q15 166 8 [(0,(bC q)),(5,(.row 15)),(6,(aG w)),(7,(aG k7))] [(15,(fZ l))]
abbrev He:=λl w q=>hd Q15 166 14 [(5,(.row 15)),(8,(c9 l)),(9,(aG w))] [(15,(fZ q))]
abbrev f37:=λl q=>rn Q2 167 [(c9 l),(ur q)]
abbrev YD:=λq w l=>hd Q2 167 2 [(0,(c9 q)),(1,(ur w)),(5,(aG l))] []
abbrev f100:=λl=>rn Q31 168 [(eW l)]
abbrev Ql:=λq l w=>hd Q31 168 3 [(0,(eW q)),(4,(.row 6)),(5,(aG l))] [(6,(y8 w))]
abbrev f101:=λq l=>rn Q2 169 [(vB q),(gN l)]
abbrev Qm:=λw l q=>hd Q2 169 2 [(0,(vB w)),(1,(gN l)),(5,(aG q))] []
abbrev f102:=λl q=>rn Q2 170 [(gN l),(gN q)]
abbrev f103:=λl q=>rn Q2 171 [(gN l),(aG q)]
abbrev f104:=λl q=>rn Q15 172 [(bC l),(c9 q)]
abbrev G3:=λq l w z=>hd Q15 172 4 [(0,(bC q)),zl 5,(6,(c9 l)),(7,(aG w))] [(5,(fZ z))]
abbrev G4:=λB q D z l w F=>hd Q15 172 9 [(0,(bC B)),zl 5,(6,(c9 q)),(7,(aG D)),(8,(c9 z)),(9,(Z9 l)),(10,(aG w))] [(5,(fZ F))]
abbrev f105:=λl=>rn Q4 173 [(gN l)]
abbrev f140:=λq l=>rn Q2 174 [(ur q),(Z9 l)]
abbrev LJ:=λw l q=>hd Q2 174 4 [(0,(ur w)),(1,(Z9 l)),(5,(aG q))] []
abbrev f538:=λl=>rn Q2 175 [(kG l)]
abbrev L7:=λl q=>hd Q2 175 6 [gD 1,(3,(aG l))] [(1,(kP q))]
abbrev f507:=λq w l=>rn Q2 176 [(cn q),(dF w),(kG l)]
abbrev oK:=λz l q w=>hd Q2 176 12 [(1,(dF z)),gD 3,gD 5,(7,(aG l))] [(3,(dL q)),(5,(kP w))]
abbrev F9:=λz l q w=>hd Q2 176 17 [(1,(dF z)),gD 3,gD 5,(8,(aG l))] [(3,(dL q)),(5,(kP w))]
abbrev kR:=λD (w:List Node) (z:Bool) F B l q=>dec (tJ) (Rn 177 [(cn D),(.row 10000),(.ag [.v (.dD 2 (List.map Node.enc w)), .v (.bool z), .r 20001]),(eW F),(kG B)] (ael l q))
abbrev wN:=λK D B G w z I F l q=>hx (tJ) 177 11 [10000,20001] [(1,(.row 10000)),(3,(eW K)),gD 5,gD 7,gD 9,gD 10,(11,(aG D)),(12,(aG B))] ((5,(dL G))::(7,(.box 243 [(dw w),(Z9 z),(.row 20001)]))::(9,(kP I))::(10,(xw F))::(ael l q))
abbrev Ga:=λB G w z I D F l q=>hx (tJ) 177 18 [10000,20001] [(1,(.row 10000)),gD 5,gD 7,gD 9,gD 10,(13,(.row 72)),(14,(aG B))] ((5,(dL G))::(7,(.box 243 [(dw w),(Z9 z),(.row 20001)]))::(9,(kP I))::(10,(xw D))::(72,(dP F))::(ael l q))
abbrev f441:=λq l=>rn Q10 178 [(cn q),(mS l)]
abbrev QL:=λl q w z B=>hd Q10 178 3 [gD 2,gD 3,gD 4,zl 6,(7,(aG l))] (tl13 q w z B)
abbrev AH:=λl q w z B=>hd Q10 178 7 [gD 2,gD 3,gD 4,zl 6,(8,(Z9 l))] (tl13 q w z B)
abbrev xN:=λl q w z B D=>hd Q10 178 10 [gD 2,gD 3,gD 4,zl 6,(9,(eW l)),(10,(aG q))] (tl13 w z B D)
abbrev xO:=λl q z w B D F G=>hd Q10 178 14 [gD 2,gD 3,gD 4,zl 6,(9,(eW l)),(10,(aG q)),(11,(jY z)),(12,(aG w))] (tl13 B D F G)
abbrev Jt:=λq w z B l=>hd Q10 178 21 [gD 3,gD 4,zl 6,gD 13,(14,(aG q))] [(3,(eN w)),(4,(eN z)),(6,(dP B)),(13,(.box 30 [(.row 5208)])),(5208,(dh l))]
abbrev f555:=λl q=>rn Q2 179 [(c9 l),(ur q)]
abbrev Rl:=λq w l=>hd Q2 179 2 [(0,(c9 q)),(1,(ur w)),(5,(aG l))] []
abbrev f106:=λl q=>rn Q28 180 [(gN l),(aG q)]
abbrev f426:=λq l=>rn Q9 189 [(eW q),(mS l)]
abbrev G6:=λF q w z B D l=>hd Q9 189 3 [(0,(eW F)),gD 3,gD 4,gD 5,(13,(eW q)),(14,(aG w)),(15,(aG z))] (tl8 B D l)
abbrev LQ:=λF q w z B D l=>hd Q9 189 8 [(0,(eW F)),gD 4,gD 5,(33,(dw q)),(34,(aG w)),(35,(aG z))] (tl8 B D l)
abbrev Jr:=λQ B D F G I K L N O l q w z=>hd Q9 189 12 [(0,(eW Q)),gD 4,gD 5,gD 10,(33,(dw B)),(34,(aG D)),(35,(aG F)),(43,(jY G)),(44,(aG I)),(45,(aG K))] [(3,(eN L)),(4,(eN N)),(5,(.box 30 [(.row 5080)])),(9,(yG O)),(10,(.box 71 [(aG l),(.row 5657)])),(5080,(dh q)),(5161,(gJ w)),(5657,(gJ z))]
abbrev f425:=λl=>rn Q9 190 [(aG l)]
abbrev f438:=λq l w z=>rn Q10 194 [(cn q),(mS l),(eW w),(eW z)]
abbrev E543r (l:List Int) (q:List fK) (w:List cO) (z:List Template):=eD Q4 (dT 10000 (.box 78 [(.ptr 10002 0)]) (dT 10001 (.box 51 [(eW l)]) (dI 10002 (iL 141 [(eP q),(dU w),(dF z),(.row 10003)] 2 Node.enc) (dJ 10003 (iM 9 51 V9 UH) dZ))))
abbrev RG (l:List fK) (q:List cO) (w:List Template):=eD Q4 (dT 10000 (.box 78 [(.ptr 10001 0)]) (dI 10001 (iL 141 [(eP l),(dU q),(dF w),(.row 10002)] 2 Node.enc) (dJ 10002 (iM 9 51 V9 UH) dZ)))
abbrev f543b:=λ(F:List bJ) l q w z B D=>dec (E543r l q w z) (Rn 195 [(.pv (.dD 4 (List.map bJ.jD F))),(.cl 139 [.p 10000, .p 10001])] (YR l q w z B D))
abbrev f543c:=λ(D:List bJ) l q w z B=>dec (RG l q w) (Rn 195 [(.pv (.dD 4 (List.map bJ.jD D))),(.cl 135 [.p 10000])] (tl3 l q w z B))
abbrev CW:=λ(F:List bJ) G I l q w z B D=>hx (E543r l q w z) 195 2 [10000,10001,10002,10003] [(0,(.pv (.dD 4 (List.map bJ.jD F)))),(1,(.cl 139 [.p 10000, .p 10001])),(7,(aG G)),(8,(aG I))] (YR l q w z B D)
abbrev Jz:=λ(D:List bJ) F G l q w z B=>hx (RG l q w) 195 2 [10000,10001,10002] [(0,(.pv (.dD 4 (List.map bJ.jD D)))),(1,(.cl 135 [.p 10000])),(7,(aG F)),(8,(aG G))] (tl3 l q w z B)
abbrev f542:=λw l z q=>rn Q10 196 [(cn w),(mS l),(eW z),(mS q)]
abbrev f460:=λl=>rn Q22 197 [(eW l)]
abbrev f29:=λl q=>rn Q19 202 [(gN l),(gN q)]
abbrev Uo:=λz B q w l=>hd Q19 202 3 [(0,(gN z)),(1,(gN B)),(5,(.row 12)),(14,(aG q)),(15,(aG w))] [(12,(y8 l))]
abbrev f371:=λq (l:List Int)=>rn Q2 203 [(TZ q),(.pv (.ref [(.dD 1 (List.map (dO .u64) l))]))]
abbrev f31:=λl q=>rn Q2 204 [(gN l),(gN q)]
abbrev f372:=λl=>rn Q2 207 [(ur l)]
abbrev f111:=λq l=>rn Q4 208 [(bC q),(ur l)]
abbrev Qo:=λq l w=>hd Q4 208 2 [(0,(bC q)),(1,(ur l)),(5,(aG w))] []
abbrev f112:=λq l=>rn Q2 209 [(H8 q),(c9 l)]
abbrev Qq:=λl q w=>hd Q2 209 2 [(1,(c9 l)),gD 2,(5,(aG q))] [(2,(rY w))]
abbrev f137:=λl q=>rn Q15 210 [(bC l),(c9 q)]
abbrev LF:=λq z l w=>hd Q15 210 3 [(0,(bC q)),(1,(c9 z)),(5,(c9 l)),(6,(aG w))] []
abbrev f138:=λq l=>rn Q15 211 [(bC q),(ur l)]
abbrev LG:=λq w l=>hd Q15 211 5 [(0,(bC q)),(5,(.row 16)),(6,(aG w))] [(16,(fZ l))]
abbrev LH:=λq w B z l=>hd Q15 211 9 [(0,(bC q)),(5,(.row 16)),(6,(aG w)),(7,(c9 B)),(8,(aG z))] [(16,(fZ l))]
abbrev CS:=λl q w=>hd Q15 211 15 [(5,(.row 16)),(9,(c9 l)),(10,(aG q))] [(16,(fZ w))]
abbrev f139:=λl=>rn Q16 212 [(gN l)]
abbrev LI:=λl q w=>hd Q16 212 3 [(0,(gN l)),zl 3,(4,(aG q))] [(3,(dP w))]
abbrev f159:=λl=>rn Q2 213 [(Yr l)]
abbrev f160:=λq l=>rn Q2 214 [(Yr q),(Z9 l)]
abbrev f545:=λl=>rn Q2 215 [(aG l)]
abbrev f554:=λl=>rn Q2 216 [(kG l)]
abbrev CX:=λq l w=>hd Q2 216 13 [gD 1,(3,(aG q)),(4,(aG l))] [(1,(kP w))]
abbrev f517:=λB (w:List Node) (z:Bool) D q l=>dec (C6) (Rn 217 [(cn B),(.ag [.v (.dD 2 (List.map Node.enc w)), .v (.bool z), .r 20000]),(eW D),(ur q)] [(20000,(pG l))])
abbrev f518:=λB (q:List Node) (w:Bool) D z l=>dec (IB) (Rn 218 [(cn B),(.ag [.v (.dD 2 (List.map Node.enc q)), .v (.bool w), .r 20000]),(eW D),(mS z)] [(20000,(pG l))])
abbrev f519:=λB (w:List Node) (z:Bool) D q l=>dec (Oh) (Rn 219 [(cn B),(.ag [.v (.dD 2 (List.map Node.enc w)), .v (.bool z), .r 20000]),(eW D),(ur q)] [(20000,(pG l))])
abbrev Rb:=λG q B D w z F l=>hx (Oh) 219 2 [20000] [(2,(eW G)),(3,(ur q)),gD 4,gD 5,gD 8,(9,(aG B))] [(4,(dL D)),(5,(.box 243 [(dw w),(Z9 z),(.row 20000)])),(8,(xw F)),(20000,(pG l))]
abbrev Xs:=λB (w:List Node) (z:Bool) F (D:List bJ) l q=>dec (yB) (Rn 220 [(cn B),(.row 10000),(.ag [.v (.dD 2 (List.map Node.enc w)), .v (.bool z), .r 20001]),(eW F),(.pv (.dD 4 (List.map bJ.jD D)))] (ael l q))
abbrev vE:=λI (F:List bJ) B G w z D l q=>hx (yB) 220 2 [10000,20001] [(1,(.row 10000)),(3,(eW I)),(4,(.pv (.dD 4 (List.map bJ.jD F)))),gD 5,gD 7,gD 10,(11,(aG B))] ((5,(dL G))::(7,(.box 243 [(dw w),(Z9 z),(.row 20001)]))::(10,(xw D))::(ael l q))
abbrev f521:=λw l q=>rn Q16 221 [(eW w),(aG l),(aG q)]
abbrev Rc:=λl q w=>hd Q16 221 2 [(1,(aG l)),(2,(aG q)),(7,(.row 8))] [(8,(dP w))]
abbrev f522:=λz (q:List Node) (w:Bool) B D l=>dec (Oi) (Rn 222 [(cn z),(.ag [.v (.dD 2 (List.map Node.enc q)), .v (.bool w), .r 20000]),(eW B),(eW D)] [(20000,(pG l))])
abbrev E477r:=eR Q2 10000 3 1 (dO .i64)
abbrev f477:=λq w z l=>dec (E477r) (Rn 223 [(cn q),(.row 10000),(aG w),(pg_Arc z)] [(10000,(dP l))])
abbrev f471:=λl q=>rn Q2 224 [(eW l),(eW q)]
abbrev QT:=λl q w=>hd Q2 224 2 [(0,(eW l)),(1,(eW q)),(5,(aG w))] []
abbrev f433:=λw l q=>rn Q10 233 [(cn w),(mS l),(mS q)]
abbrev aaK (l:List fK) (q:List cO):=eD Q23 (dT 10000 (.box 297 [(eP l),(dU q),(.row 20001),(.row 20002),(.row 20003)]) (dI 20001 (iR 3 1 (dO .i64)) (dI 20002 (iR 3 1 (dO .i64)) (dJ 20003 (iR 69 1 (lu 2 b9.enc)) dZ))))
abbrev f442:=λD l q w z B=>dec (aaK l q) (Rn 238 [(.ptr 10000 0),(dw D)] (YQ l q w z B))
abbrev LV:=λI D F G l q w z B=>hx (aaK l q) 238 2 [10000,20001,20002,20003] [(0,(.ptr 10000 0)),(4,(aG I)),(15,(dw D)),(16,(aG F)),(17,(aG G))] (YQ l q w z B)
abbrev QM:=λQ D F G I K L N O l q w z B=>hx (aaK l q) 238 8 [10000,20001,20002,20003] [(0,(.ptr 10000 0)),(4,(aG Q)),zl 7,(15,(dw D)),(16,(aG F)),(17,(aG G)),(46,(jY I)),(47,(aG K)),(48,(aG L))] ((6,(yG N))::(7,(gJ O))::(YQ l q w z B))
abbrev E443r (l:List fK) (q:List cO):=eD Q2 (dT 10000 (.box 297 [(eP l),(dU q),(.row 20001),(.row 20002),(.row 20003)]) (dI 20001 (iR 3 1 (dO .i64)) (dI 20002 (iR 3 1 (dO .i64)) (dJ 20003 (iR 69 1 (lu 2 b9.enc)) dZ))))
abbrev f443:=λD F l q w z B=>dec (E443r l q) (Rn 239 [(.ptr 10000 0),(aG D),(aG F)] (YQ l q w z B))
abbrev AI:=λF D l q w z B=>hx (E443r l q) 239 3 [10000,20001,20002,20003] [gD 3,gD 7,(8,(.cl 262 [.p 3, .p 7]))] ((3,(.box 294 [(.ptr 10000 0)]))::(7,(.box 310 [(.row 15)]))::(15,(j9 F))::(5112,(j9 D))::(YQ l q w z B))
abbrev E444r (l:List fK) (q:List cO):=eD Q9 (dT 10000 (.box 297 [(eP l),(dU q),(.row 20001),(.row 20002),(.row 20003)]) (dI 20001 (iR 3 1 (dO .i64)) (dI 20002 (iR 3 1 (dO .i64)) (dJ 20003 (iR 69 1 (lu 2 b9.enc)) dZ))))
abbrev f444:=λD l q w z B=>dec (E444r l q) (Rn 240 [(.ptr 10000 0),(aG D)] (YQ l q w z B))
abbrev QN:=λF I K L G D l q w z B=>hx (E444r l q) 240 3 [10000,20001,20002,20003] [(1,(aG F)),gD 2,gD 4,gD 5,(16,(aG I)),(17,(aG K))] ((2,(.box 294 [(.ptr 10000 0)]))::(4,(eN L))::(5,(.box 51 [(.row 14)]))::(14,(dP G))::(5080,(dP D))::(YQ l q w z B))
abbrev f68:=λl=>rn Q19 245 [(gN l)]
abbrev YK:=λl q=>hd Q19 245 2 [(0,(gN l)),(3,(aG q))] []
abbrev f166:=λl=>rn Q2 249 [(Yr l)]
abbrev f167:=λl=>rn Q2 250 [(Yr l)]
abbrev f536:=λw l z q=>rn Q10 251 [(cn w),(mS l),(eW z),(mS q)]
abbrev f537:=λq l w z=>rn Q10 252 [(cn q),(mS l),(eW w),(eW z)]
abbrev f336:=λw l q=>rn Q20 253 [(cn w),(aG l),(aG q)]
abbrev E486r (l:List fK) (q:List cO):=eD Q2 (dT 10000 (.box 294 [(.ptr 10002 0)]) (dT 10001 (.box 310 [(.row 20003)]) (dT 10002 (.box 297 [(eP l),(dU q),(.row 20004),(.row 20005),(.row 20006)]) (dI 20003 (iR 309 2 dB.enc) (dI 20004 (iR 3 1 (dO .i64)) (dI 20005 (iR 3 1 (dO .i64)) (dJ 20006 (iR 69 1 (lu 2 b9.enc)) dZ)))))))
abbrev f486:=λF G l q w z B D=>dec (E486r l q) (Rn 262 [(aG F),(aG G),(.ptr 10000 0),(.ptr 10001 0)] (tl6 l q w z B D))
abbrev nY:=λI K G F l q w z B D=>hx (E486r l q) 262 8 [10000,10001,10002,20003,20004,20005,20006] [(0,(aG I)),(2,(.ptr 10000 0)),(3,(.ptr 10001 0)),(9,(jY K)),(10,(jY G)),zl 11] ((11,(gJ F))::(tl6 l q w z B D))
abbrev E485r (l:List fK) (q:List cO):=eD Q4 (dT 10000 (.box 297 [(eP l),(dU q),(.row 20001),(.row 20002),(.row 20003)]) (dI 20001 (iR 3 1 (dO .i64)) (dI 20002 (iR 3 1 (dO .i64)) (dJ 20003 (iR 69 1 (lu 2 b9.enc)) dZ))))
abbrev f485:=λD l q w z B=>dec (E485r l q) (Rn 263 [(.ptr 10000 0),(aG D)] (YQ l q w z B))
abbrev L2:=λD l q w z B=>hx (E485r l q) 263 1 [10000,20001,20002,20003] [(0,(.ptr 10000 0)),(1,(aG D))] (YQ l q w z B)
abbrev E487r (l:List fK) (q:List cO):=eD Q4 (dT 10000 (.box 294 [(.ptr 10004 0)]) (dT 10001 (.box 51 [(.row 20005)]) (dT 10002 (.box 30 [(.row 20006)]) (dT 10003 (.box 311 [(.cl 264 [.p 10000, .p 10001, .p 10002, .p 10003])]) (dT 10004 (.box 297 [(eP l),(dU q),(.row 20007),(.row 20008),(.row 20009)]) (dI 20005 (iR 3 1 (dO .i64)) (dI 20006 (iR 71 2 Node.enc) (dI 20007 (iR 3 1 (dO .i64)) (dI 20008 (iR 3 1 (dO .i64)) (dJ 20009 (iR 69 1 (lu 2 b9.enc)) dZ))))))))))
abbrev f487:=λG l q w z B D F=>dec (E487r l q) (Rn 264 [(aG G),(.ptr 10000 0),(.ptr 10001 0),(.ptr 10002 0),(.ptr 10003 0)] (tl4 l q w z B D F))
abbrev QV:=λN G I K L l q w z B D F=>hx (E487r l q) 264 9 [10000,10001,10002,10003,10004,20005,20006,20007,20008,20009] [(3,(.ptr 10002 0)),(4,(.ptr 10003 0)),(7,(aG N)),zl 8,(49,(jY G)),(50,(aG I)),(51,(aG K))] ((8,(gJ L))::(tl4 l q w z B D F))
abbrev f440:=λw l q=>rn Q10 275 [(cn w),(mS l),(mS q)]
abbrev f544:=λl q=>rn Q9 276 [(eW l),(eW q)]
abbrev f354:=λq l=>rn Q20 277 [(cn q),(gN l)]
abbrev Qy:=λl q w=>hd Q20 277 2 [(1,(gN l)),gD 2,(6,(aG q))] [(2,(dL w))]
abbrev f448:=λl q=>rn Q32 310 [(dw l),(dw q)]
abbrev LW:=λl q w z=>hd Q32 310 3 [(0,(dw l)),(1,(dw q)),(5,(.row 9)),(6,(aG w))] [(9,(dh z))]
abbrev QO:=λz B D F w G l q=>hd Q32 310 7 [(0,(dw z)),(1,(dw B)),(5,(.row 9)),(6,(aG D)),gD 7,(8,(aG F))] [(7,(.box 71 [(aG w),(.row 5369)])),(9,(dh G)),(5113,(gJ l)),(5369,(gJ q))]
abbrev f451:=λq l=>rn Q16 311 [(dw q),(eW l)]
abbrev LY:=λz D w B l q=>hd Q16 311 5 [(0,(dw z)),(1,(eW D)),(5,(.row 20)),(6,(.row 23)),zl 7,(8,(aG w))] [(7,(j9 B)),(20,(dP l)),(23,(nW q))]
abbrev tH:=λw z l q=>hd Q16 311 11 [(5,(.row 20)),(6,(.row 23)),zl 7,(9,(aG w))] [(7,(j9 z)),(20,(dP l)),(23,(nW q))]
abbrev AJ:=λD q l w F z B=>hd Q16 311 17 [(5,(.row 20)),(6,(.row 23)),zl 7,(9,(aG D)),(10,(aG q)),(11,(aG l)),(12,(aG w))] [(7,(j9 F)),(20,(dP z)),(23,(nW B))]
abbrev F4:=λF q l z G B D w=>hd Q16 311 23 [(5,(.row 20)),(6,(.row 23)),zl 7,(9,(aG F)),(10,(aG q)),(11,(aG l)),(13,(.row 112)),(14,(aG z))] [(7,(j9 G)),(20,(dP B)),(23,(nW D)),(112,(gJ w))]
abbrev f450:=λl q w=>rn Q16 312 [(eW l),(aG q),(aG w)]
abbrev LX:=λq l w Z1=>hd Q16 312 5 [(7,(aG q)),(8,(aG l)),(9,(.row 29)),(10,(aG w))] [(29,(dP Z1))]
abbrev f449:=λl=>rn Q22 313 [(aG l)]
abbrev QS:=λq l w=>hd Q22 313 3 [(0,(aG q)),zl 3,(4,(aG l))] [(3,(dP w))]
abbrev f452:=λq w l=>rn Q11 314 [(cn q),(dw w),(eW l)]
abbrev Ct:=λw B q z l=>hd Q11 314 3 [(1,(dw w)),(2,(eW B)),gD 3,(8,(.row 15)),(9,(aG q))] [(3,(dL z)),(15,(dP l))]
abbrev F5:=λw z l q=>hd Q11 314 10 [(1,(dw w)),(2,(eW z)),(8,(.row 15)),(12,(aG l))] [(15,(dP q))]
abbrev f453:=λz w l q=>rn Q9 315 [(dw z),(eW w),(eW l),(aG q)]
abbrev F6:=λD G q z B F w l=>hd Q9 315 3 [(0,(dw D)),(1,(eW G)),(2,(eW q)),(3,(aG z)),gD 8,gD 9,(10,(aG B))] (tl9 F w l)
abbrev CT:=λB F w z D q l=>hd Q9 315 7 [(0,(dw B)),(1,(eW F)),(3,(aG w)),gD 8,gD 9,(11,(aG z))] (tl9 D q l)
abbrev Cu:=λF I w B z D G q l=>hd Q9 315 11 [(0,(dw F)),(1,(eW I)),(3,(aG w)),gD 8,gD 9,(11,(aG B)),(12,(aG z)),(13,(aG D))] (tl9 G q l)
abbrev f553:=λw (q:List Node) (l:List (Option (List b9)))=>dec (IC) (Rn 316 [(.ag [.r 9000]),(eW w)] [(9000,(.rn 71 2 1 68 2 (List.map (kq Node.enc 1) q) (qf b9.enc l)))])
abbrev AP:=λD z w B (q:List Node) (l:List (Option (List b9)))=>hx (IC) 316 3 [] [(1,(eW D)),gD 2,gD 4,(6,(aG z)),(7,(aG w))] [(2,(.box 30 [(.row 9000)])),(4,(eN B)),(9000,(.rn 71 2 1 68 2 (List.map (kq Node.enc 1) q) (qf b9.enc l)))]
abbrev f491:=λq l=>rn Q20 348 [(jY q),(aG l)]
abbrev QW:=λw l q=>hd Q20 348 2 [(0,(jY w)),(1,(aG l)),(6,(aG q))] []
end
