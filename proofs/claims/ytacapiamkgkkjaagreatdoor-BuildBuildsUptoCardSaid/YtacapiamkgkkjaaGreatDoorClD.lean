/- The functions and loops as plain ones, by program (decomp8.p. -/
import Derived.Test.YtacapiamkgkkjaaGreatDoorClT
set_option linter.all false
set_option maxRecDepth 100000
namespace Go.Proofs.YtacapiamkgkkjaaGreatDoor.cl
noncomputable section
open Go Go.AM
abbrev f497:=λl=>rn Q2 3 [(W4 l)]
abbrev f403:=λl=>rn Q0 5 [(bH l)]
abbrev f498:=λq l=>rn Q1 6 [(ck q),(W4 l)]
abbrev f499:=rn Q2 7 []
abbrev f500:=λq w l=>rn Q3 8 [(ck q),(dc w),(kq l)]
abbrev f501:=λq w l=>rn Q3 9 [(ck q),(dc w),(kq l)]
abbrev Rf:=λw q l=>dec (Cv) (Rn 9 [(ck w),(.row 10000),(kq q)] [(10000,(fW l))])
abbrev f407:=λl q=>rn Q2 10 [(mW l),(mW q)]
abbrev f502:=λl=>rn Q2 11 [(oK l)]
abbrev PO:=λq l=>hd Q2 11 4 [(0,(oK q)),(3,(aG l))] []
abbrev f504:=λl q=>rn Q6 13 [(ck l),(oK q)]
abbrev K7:=λl q w=>hd Q6 13 5 [(1,(oK l)),gF 2,yz 7] [(2,(dH q)),(7,(fW w))]
abbrev Fl:=λq l=>hd Q6 13 11 [yz 7,yz 10] [(7,(fW q)),(10,(fW l))]
abbrev zJ:=λl q z w=>hd Q6 13 14 [yz 7,yz 10,(11,(aG l)),(12,(aG q))] [(7,(fW z)),(10,(fW w))]
abbrev f332:=λl=>rn Q4 15 [(bH l)]
abbrev Pk:=λw F B z D l q=>hd Q4 15 7 [(0,(bH w)),gF 2,(4,(OL F)),(6,(gW B)),gF 8,(9,(aG z))] [(2,(dH D)),(8,(.box 36 [(.row 5128),(.row 5129)])),(5128,(xF l)),(5129,(qG q))]
abbrev f327:=rn Q5 16 []
abbrev f503:=λl=>rn Q2 17 [(kq l)]
abbrev f414:=λl=>dec (DL) (Rn 19 [(aG l)] [])
abbrev f505:=λl q=>dec (Qj) (Rn 20 [(ck l),(dc q)] [])
abbrev E506r (l:List fG) (q:List cU) (w:List Template):=eD Q3 (dI 10000 (iL 84 [(eT l),(er q),(dc w),(.row 10001)] 2 Node.enc) (dJ 10001 (iM 9 107 V9 Cp) dZ))
abbrev aaa:=λD l q w z B=>dec (E506r l q w) (Rn 21 [(.ptr 10000 0),(kq D)] (Zd l q w z B))
abbrev f507:=λq w l=>rn Q2 22 [(ck q),(dc w),(kq l)]
abbrev oL:=λz l q w=>hd Q2 22 12 [(1,(dc z)),gF 3,gF 5,(7,(aG l))] [(3,(dH q)),(5,(ki w))]
abbrev Fo:=λz l q w=>hd Q2 22 17 [(1,(dc z)),gF 3,gF 5,(8,(aG l))] [(3,(dH q)),(5,(ki w))]
abbrev f508:=λB F (q:List Node) (w:Bool) D z l=>dec (Ac) (Rn 23 [(ck B),(dc F),(.ag [.v (.dy 2 (List.map Node.enc q)), .v (.bool w), .r 20000]),(eL D),(kq z)] [(20000,(jC l))])
abbrev q7:=λD (w:List Node) (z:Bool) F B l q=>dec (sD) (Rn 23 [(ck D),(.row 10000),(.ag [.v (.dy 2 (List.map Node.enc w)), .v (.bool z), .r 20001]),(eL F),(kq B)] (tl9 l q))
abbrev zK:=λK I B z F q w G D l=>hx (Ac) 23 11 [20000] [(1,(dc K)),(3,(eL I)),gF 5,gF 7,gF 9,gF 10,(11,(aG B)),(12,(aG z))] [(5,(dH F)),(7,(.box 74 [(dK q),(Tj w),(.row 20000)])),(9,(ki G)),(10,(qJ D)),(20000,(jC l))]
abbrev vX:=λK D B G w z I F l q=>hx (sD) 23 11 [10000,20001] [(1,(.row 10000)),(3,(eL K)),gF 5,gF 7,gF 9,gF 10,(11,(aG D)),(12,(aG B))] ((5,(dH G))::(7,(.box 74 [(dK w),(Tj z),(.row 20001)]))::(9,(ki I))::(10,(qJ F))::(tl9 l q))
abbrev IA:=λI z F q w G B D l=>hx (Ac) 23 18 [20000] [(1,(dc I)),gF 5,gF 7,gF 9,gF 10,(13,(.row 72)),(14,(aG z))] [(5,(dH F)),(7,(.box 74 [(dK q),(Tj w),(.row 20000)])),(9,(ki G)),(10,(qJ B)),(72,(dY D)),(20000,(jC l))]
abbrev Fp:=λB G w z I D F l q=>hx (sD) 23 18 [10000,20001] [(1,(.row 10000)),gF 5,gF 7,gF 9,gF 10,(13,(.row 72)),(14,(aG B))] ((5,(dH G))::(7,(.box 74 [(dK w),(Tj z),(.row 20001)]))::(9,(ki I))::(10,(qJ D))::(72,(dY F))::(tl9 l q))
abbrev f441:=λq l=>rn Q7 24 [(ck q),(mW l)]
abbrev PC:=λl q w z B=>hd Q7 24 3 [gF 2,gF 3,gF 4,yz 6,(7,(aG l))] (tl12 q w z B)
abbrev xH:=λl q w z B=>hd Q7 24 7 [gF 2,gF 3,gF 4,yz 6,(8,(Tj l))] (tl12 q w z B)
abbrev wZ:=λl q w z B D=>hd Q7 24 10 [gF 2,gF 3,gF 4,yz 6,(9,(eL l)),(10,(aG q))] (tl12 w z B D)
abbrev w5:=λl q z w B D F G=>hd Q7 24 14 [gF 2,gF 3,gF 4,yz 6,(9,(eL l)),(10,(aG q)),(11,(kO z)),(12,(aG w))] (tl12 B D F G)
abbrev Iw:=λq w z B l=>hd Q7 24 21 [gF 3,gF 4,yz 6,gF 13,(14,(aG q))] [(3,(e8 w)),(4,(e8 z)),(6,(dY B)),(13,(.box 30 [(.row 5208)])),(5208,(dV l))]
abbrev f418:=λl q=>rn Q8 25 [(mW l),(mW q)]
abbrev Px:=λq w l=>hd Q8 25 4 [(5,(eL q)),(6,(eL w)),(7,(aG l))] []
abbrev f523:=λl=>rn Q2 26 [(OJ l)]
abbrev PW:=λl q=>hd Q2 26 4 [gF 1,(3,(aG l))] [(1,(D9 q))]
abbrev E528r (l:List fG) (q:List cU) (w:List Template):=eD Q16 (dI 10000 (iL 84 [(eT l),(er q),(dc w),(.row 10001)] 2 Node.enc) (dJ 10001 (iM 9 107 V9 Cp) dZ))
abbrev Rg:=λD l q w z B=>dec (E528r l q w) (Rn 29 [(.ptr 10000 0),(uh D)] (Zd l q w z B))
abbrev f512:=λl=>rn Q8 32 [(oK l)]
abbrev PS:=λq l=>hd Q8 32 2 [(0,(oK q)),(3,(aG l))] []
abbrev K8:=λq l=>hd Q8 32 7 [(0,(oK q)),(4,(aG l))] []
abbrev IB:=λw l z q=>hd Q8 32 11 [(0,(oK w)),(4,(aG l)),(5,(dm z)),(6,(aG q))] []
abbrev IC:=λl q=>hd Q8 32 16 [(0,(oK l)),yz 7] [(7,(fW q))]
abbrev f527:=λq w l=>dec (An) (Rn 33 [(ck q),(.row 10000),(OJ w)] [(10000,(fW l))])
abbrev K9:=λG I K L N q w z B D F l=>hx (An) 33 6 [10000] [(1,(.row 10000)),gF 3,gF 5,gF 6,gF 10,(11,(aG G))] ((3,(dH I))::(5,(D9 K))::(tl11 L N q w z B D F l))
abbrev Fs:=λI G K L q w z B D F l=>hx (An) 33 14 [10000] [(1,(.row 10000)),gF 6,gF 10,(14,(dm I)),(15,(aG G))] (tl11 K L q w z B D F l)
abbrev f526:=λq l=>rn Q8 34 [(dc q),(oK l)]
abbrev sw:=λz w l q=>hd Q8 34 3 [(0,(dc z)),(1,(oK w)),(5,(aG l)),(6,(aG q))] []
abbrev f515:=λq l=>rn Q8 35 [(dc q),(uh l)]
abbrev PT:=λw l q=>hd Q8 35 2 [(0,(dc w)),(1,(uh l)),(5,(aG q))] []
abbrev f323:=λl=>rn Q9 37 [(bH l)]
abbrev KO:=λl w q B z=>hd Q9 37 8 [(0,(bH l)),(5,(gW w)),(7,(dm q)),yz 8,(9,(aG B))] [(8,(yf z))]
abbrev Fe:=λw B z F l D q=>hd Q9 37 12 [(0,(bH w)),(5,(gW B)),(7,(dm z)),yz 8,(9,(aG F)),yz 10,(11,(aG l))] [(8,(yf D)),(10,(KC q))]
abbrev f15:=λl=>rn Q10 38 [(bH l)]
abbrev Xj:=λq l w z=>hd Q10 38 7 [(0,(bH q)),(5,(dm l)),yz 6,(7,(aG w))] [(6,(By z))]
abbrev DE:=λB q l D w z=>hd Q10 38 15 [(0,(bH B)),(5,(dm q)),(6,(vg l)),(8,(vg D)),(9,(gW w)),(10,(aG z))] []
abbrev Ph:=λF q l G w z D B=>hd Q10 38 19 [(0,(bH F)),(5,(dm q)),(6,(vg l)),(8,(vg G)),(9,(gW w)),(10,(aG z)),gF 11,(12,(aG D))] [(11,(Qw B))]
abbrev f28:=λq l=>rn Q12 39 [(gW q),(aG l)]
abbrev HA:=λw l q z=>hd Q12 39 3 [(0,(gW w)),(1,(aG l)),yz 5,(6,(aG q))] [(5,(dY z))]
abbrev HB:=λz q w l B D=>hd Q12 39 8 [(0,(gW z)),(1,(aG q)),yz 5,(6,(aG w)),(7,(Tj l)),(8,(aG B))] [(5,(dY D))]
abbrev f320:=λl=>rn Q14 40 [(bH l)]
abbrev Pj:=λl z q w B=>hd Q14 40 8 [(0,(bH l)),(5,(gW z)),(7,(dm q)),yz 8,(9,(aG w))] [(8,(qG B))]
abbrev f351:=λw q l=>rn Q11 41 [(uh w),(uh q),(dm l)]
abbrev Pn:=λl G I D F q w z B=>hd Q11 41 5 [(2,(dm l)),gF 6,gF 7,(8,(aG G))] [(6,(rR I)),(7,(.box 116 [(uh D),(.row 14),(.row 5162)])),(14,(gb F)),(5113,(gb q)),(5114,(qj w)),(5161,(gb z)),(5162,(qj B))]
abbrev Io:=λl F G D q w z B=>hd Q11 41 5 [(2,(dm l)),gF 6,gF 7,(8,(aG F))] [(6,(rR G)),(7,(.box 116 [(uh D),(.row 5161),(.row 5162)])),(5113,(gb q)),(5114,(qj w)),(5161,(gb z)),(5162,(qj B))]
abbrev f509:=λq l=>rn Q2 42 [(kq q),(aG l)]
abbrev f510:=λl=>rn Q8 43 [(kq l)]
abbrev f511:=λl=>rn Q2 44 [(kq l)]
abbrev PR:=λl q=>hd Q2 44 4 [gF 1,(3,(aG l))] [(1,(ki q))]
abbrev L4 (l:List fG) (q:List cU) (w:List Template):=eD Q2 (dI 10000 (iL 84 [(eT l),(er q),(dc w),(.row 10001)] 2 Node.enc) (dJ 10001 (iM 9 107 V9 Cp) dZ))
abbrev Mf:=λD l q w z B=>dec (L4 l q w) (Rn 46 [(.ptr 10000 0),(kq D)] (Zd l q w z B))
abbrev mz:=λD F G I l q w z B=>hx (L4 l q w) 46 14 [10000,10001] [gF 2,gF 3,(48,(dm D)),(49,(aG F)),(50,(aG G))] ((2,(.box 68 [(.ptr 10000 0)]))::(3,(ki I))::(Zd l q w z B))
abbrev sE:=λD F l q w z B=>dec (L4 l q w) (Rn 47 [(.ptr 10000 0),(kq D),(eL F)] (Zd l q w z B))
abbrev f434:=λq l=>rn Q7 48 [(ck q),(mW l)]
abbrev Pz:=λF G I K L N l q w z B D=>hd Q7 48 3 [gF 3,gF 4,(6,(.ptr 14 0)),(16,(dK F)),(17,(aG G)),(18,(aG I))] (tl10 K L N l q w z B D)
abbrev DF:=λF G I K l q w z B D=>hd Q7 48 9 [gF 3,gF 4,(6,(.ptr 14 0)),(9,(aG F))] (tl10 G I K l q w z B D)
abbrev Ff:=λK L N O l q I w z B D F G=>hd Q7 48 15 [gF 4,(6,(.ptr 14 0)),gF 10,(72,(aG K)),(73,(aG L))] [(2,(dH N)),(4,(e8 O)),(10,(.box 30 [(.row 68)])),(14,(.box 184 [(eT l),(er q),(.row 5210),(.row 5211)])),(68,(dV I)),(5160,(dV w)),(5208,(xF z)),(5209,(qG B)),(5210,(dY D)),(5211,(dY F)),(6104,(dV G))]
abbrev f364:=λq l=>rn Q8 49 [(ck q),(uh l)]
abbrev Pu:=λl q w=>hd Q8 49 2 [(1,(uh l)),gF 2,(5,(aG q))] [(2,(dH w))]
abbrev f516:=λl=>rn Q2 50 [(ck l)]
abbrev f365:=λq l=>rn Q8 51 [(ck q),(uh l)]
abbrev Pv:=λl q w=>hd Q8 51 2 [(1,(uh l)),gF 2,(5,(aG q))] [(2,(dH w))]
abbrev f517:=λB (w:List Node) (z:Bool) D q l=>dec (Ao) (Rn 52 [(ck B),(.ag [.v (.dy 2 (List.map Node.enc w)), .v (.bool z), .r 20000]),(eL D),(uh q)] [(20000,(jC l))])
abbrev f518:=λB (q:List Node) (w:Bool) D z l=>dec (FF) (Rn 53 [(ck B),(.ag [.v (.dy 2 (List.map Node.enc q)), .v (.bool w), .r 20000]),(eL D),(mW z)] [(20000,(jC l))])
abbrev f519:=λB (w:List Node) (z:Bool) D q l=>dec (Lo) (Rn 54 [(ck B),(.ag [.v (.dy 2 (List.map Node.enc w)), .v (.bool z), .r 20000]),(eL D),(uh q)] [(20000,(jC l))])
abbrev PU:=λG q B D w z F l=>hx (Lo) 54 2 [20000] [(2,(eL G)),(3,(uh q)),gF 4,gF 5,gF 8,(9,(aG B))] [(4,(dH D)),(5,(.box 74 [(dK w),(Tj z),(.row 20000)])),(8,(qJ F)),(20000,(jC l))]
abbrev f520:=λz F (q:List Node) (w:Bool) D (B:List bV) l=>dec (DM) (Rn 55 [(ck z),(dc F),(.ag [.v (.dy 2 (List.map Node.enc q)), .v (.bool w), .r 20000]),(eL D),(.pv (.dy 4 (List.map bV.iX B)))] [(20000,(jC l))])
abbrev VX:=λB (w:List Node) (z:Bool) F (D:List bV) l q=>dec (wm) (Rn 55 [(ck B),(.row 10000),(.ag [.v (.dy 2 (List.map Node.enc w)), .v (.bool z), .r 20001]),(eL F),(.pv (.dy 4 (List.map bV.iX D)))] (tl9 l q))
abbrev zL:=λI G (D:List bV) z F q w B l=>hx (DM) 55 2 [20000] [(1,(dc I)),(3,(eL G)),(4,(.pv (.dy 4 (List.map bV.iX D)))),gF 5,gF 7,gF 10,(11,(aG z))] [(5,(dH F)),(7,(.box 74 [(dK q),(Tj w),(.row 20000)])),(10,(qJ B)),(20000,(jC l))]
abbrev vi:=λI (F:List bV) B G w z D l q=>hx (wm) 55 2 [10000,20001] [(1,(.row 10000)),(3,(eL I)),(4,(.pv (.dy 4 (List.map bV.iX F)))),gF 5,gF 7,gF 10,(11,(aG B))] ((5,(dH G))::(7,(.box 74 [(dK w),(Tj z),(.row 20001)]))::(10,(qJ D))::(tl9 l q))
abbrev f521:=λw l q=>rn Q12 56 [(eL w),(aG l),(aG q)]
abbrev PV:=λl q w=>hd Q12 56 2 [(1,(aG l)),(2,(aG q)),(7,(.row 8))] [(8,(dY w))]
abbrev f522:=λz (q:List Node) (w:Bool) B D l=>dec (Lp) (Rn 57 [(ck z),(.ag [.v (.dy 2 (List.map Node.enc q)), .v (.bool w), .r 20000]),(eL B),(eL D)] [(20000,(jC l))])
abbrev E477r:=eR Q2 10000 3 1 (dX .i64)
abbrev f477:=λq w z l=>dec (E477r) (Rn 58 [(ck q),(.row 10000),(aG w),(pg_Arc z)] [(10000,(dY l))])
abbrev f471:=λl q=>rn Q2 59 [(eL l),(eL q)]
abbrev PJ:=λl q w=>hd Q2 59 2 [(0,(eL l)),(1,(eL q)),(5,(aG w))] []
abbrev f432:=λl=>rn Q12 60 [(mW l)]
abbrev KX:=λq w l=>hd Q12 60 3 [gF 1,(3,(.row 10)),(4,(aG q))] [(1,(e8 w)),(10,(dY l))]
abbrev Py:=λq z w B l=>hd Q12 60 8 [gF 1,(3,(.row 10)),(4,(aG q)),(5,(kO z)),(6,(aG w))] [(1,(e8 B)),(10,(dY l))]
abbrev f110:=λl=>rn Q2 61 [(uh l)]
abbrev f558:=λl q=>rn Q8 65 [(uh l),(uh q)]
abbrev f540:=λq l=>rn Q16 74 [(dc q),(uh l),(.pv (.fn 75 []))]
abbrev Lb:=λB l z w q=>hd Q16 74 3 [(0,(dc B)),(1,(uh l)),(2,(.pv (.fn 75 []))),(8,(aG z)),(9,(aG w)),(10,(aG q))] []
abbrev f556:=λq l=>rn Q8 75 [(Sl q),(uh l)]
abbrev f539:=λq l=>rn Q8 78 [(oK q),(uh l)]
abbrev PY:=λw l q=>hd Q8 78 2 [(0,(oK w)),(1,(uh l)),(5,(aG q))] []
abbrev f546:=λl=>rn Q13 79 [(OJ l)]
abbrev PZ:=λq w l=>hd Q13 79 3 [gF 1,(3,(.row 5121)),(4,(aG q))] [(1,(D9 w)),(5121,(gb l))]
abbrev f548:=λq l=>dec (CZ) (Rn 80 [(kq q),(.row 20000)] [(20000,(gb l))])
abbrev Gq:=λq w l=>hx (CZ) 80 4 [20000] [(1,(.row 20000)),gF 2,(5,(aG q))] [(2,(ki w)),(20000,(gb l))]
abbrev f547:=λl q=>rn Q2 81 [(dc l),(OJ q)]
abbrev P0:=λw q l=>hd Q2 81 3 [(0,(dc w)),(5,(dm q)),(6,(aG l))] []
abbrev f318:=λl=>rn Q8 82 [(bH l)]
abbrev Ij:=λl z q w=>hd Q8 82 11 [(0,(bH l)),(3,(gW z)),(5,(dm q)),(7,(aG w))] []
abbrev Fb:=λq z w l=>hd Q8 82 17 [(0,(bH q)),(3,(gW z)),(5,(dm w)),(10,(aG l))] []
abbrev Fc:=λw B z q l=>hd Q8 82 20 [(0,(bH w)),(3,(gW B)),(5,(dm z)),(10,(aG q)),(11,(aG l))] []
abbrev f345:=λl=>rn Q13 83 [(bH l)]
abbrev KQ:=λq l w=>hd Q13 83 3 [(0,(bH q)),(3,(dm l)),(4,(aG w))] []
abbrev Pm:=λq l w z=>hd Q13 83 6 [(0,(bH q)),(3,(dm l)),(4,(aG w)),(5,(aG z))] []
abbrev f370:=λq w z l=>rn Q23 84 [(bH q),(gW w),(aG z),(uh l)]
abbrev Gl:=λB D F q w l z=>hd Q23 84 4 [(0,(bH B)),(1,(gW D)),(2,(aG F)),(3,(uh q)),(10,(Tj w)),(11,(gN l)),(12,(aG z))] []
abbrev f19:=λq l=>rn Q8 85 [(gW q),(gN l)]
abbrev Xk:=λq w l=>hd Q8 85 3 [(0,(gW q)),(5,(gN w)),(6,(aG l))] []
abbrev f32:=λl=>rn Q8 86 [(bH l)]
abbrev KP:=λl w q=>hd Q8 86 12 [(0,(bH l)),(6,(aG w)),(7,(aG q))] []
abbrev f52:=λl=>rn Q13 87 [(bH l)]
abbrev Xm:=λq l w=>hd Q13 87 3 [(0,(bH q)),(3,(dm l)),(4,(aG w))] []
abbrev f53:=λw q l=>rn Q18 88 [(bH w),(dm q),(uh l)]
abbrev SX:=λl q w z=>hd Q18 88 4 [(1,(dm l)),(7,(dm q)),yz 8,(9,(aG w))] [(8,(dY z))]
abbrev f54:=λl=>rn Q19 89 [(vg l)]
abbrev M4:=λl q=>hd Q19 89 3 [(3,(.row 7)),(4,(aG l))] [(7,(By q))]
abbrev M5:=λl q w=>hd Q19 89 6 [(3,(.row 7)),(4,(aG l)),(5,(aG q))] [(7,(By w))]
abbrev f55:=λz q l w=>rn Q24 90 [(bH z),(dm q),(vg l),(gN w)]
abbrev SY:=λB q l z w D=>hd Q24 90 3 [(0,(bH B)),(1,(dm q)),(2,(vg l)),(3,(gN z)),yz 9,(10,(aG w))] [(9,(gb D))]
abbrev Gs:=λw q l=>hd Q24 90 12 [(9,(dm w)),(11,(uh q)),(12,(aG l))] []
abbrev f56:=λl q=>rn Q2 91 [(Sk l),(Sk q)]
abbrev f25:=λw l q=>rn Q2 92 [(gW w),(aG l),(aG q)]
abbrev f357:=λq l=>rn Q22 93 [(bH q),(uh l)]
abbrev KT:=λw q l z=>hd Q22 93 3 [(0,(bH w)),(1,(uh q)),(6,(dm l)),(7,(aG z))] []
abbrev f358:=λq l=>rn Q8 94 [(gW q),(uh l)]
abbrev Pr:=λw l q=>hd Q8 94 2 [(0,(gW w)),(1,(uh l)),(5,(aG q))] []
abbrev f524:=λw l q=>rn Q8 95 [(kq w),(aG l),(aG q)]
abbrev PX:=λl q w z=>hd Q8 95 4 [(1,(aG l)),(2,(aG q)),gF 3,(7,(aG w))] [(3,(ki z))]
abbrev Fq:=λl q z w B=>hd Q8 95 10 [(1,(aG l)),(2,(aG q)),gF 3,(8,(aG z)),(9,(aG w))] [(3,(ki B))]
abbrev f525:=λq l=>rn Q8 96 [(kq q),(aG l)]
abbrev zM:=λl q w=>hd Q8 96 11 [gF 2,(5,(aG l)),(6,(aG q))] [(2,(ki w))]
abbrev f352:=λq l=>rn Q8 99 [(ck q),(uh l)]
abbrev f529:=λl=>rn Q3 100 [(ck l),(.pv (.dy 1 (List.map FSt.enc [])))]
abbrev f363:=λq l=>rn Q8 101 [(ck q),(uh l)]
abbrev Pt:=λl z B q w=>hd Q8 101 2 [(1,(uh l)),(8,(er z)),(9,(aG B)),(10,(aG q))] [(2,(dH w))]
abbrev E533r (l:List Int) (q:List fG) (w:List cU) (z:List Template):=eD Q2 (dT 10000 (.box 68 [(.ptr 10002 0)]) (dT 10001 (.box 107 [(eL l)]) (dI 10002 (iL 84 [(eT q),(er w),(dc z),(.row 10003)] 2 Node.enc) (dJ 10003 (iM 9 107 V9 Cp) dZ))))
abbrev VG (l:List fG) (q:List cU) (w:List Template):=eD Q2 (dT 10000 (.box 68 [(.ptr 10001 0)]) (dI 10001 (iL 84 [(eT l),(er q),(dc w),(.row 10002)] 2 Node.enc) (dJ 10002 (iM 9 107 V9 Cp) dZ)))
abbrev f533b:=λ(F:List bV) l q w z B D=>dec (E533r l q w z) (Rn 102 [(.pv (.dy 4 (List.map bV.iX F))),(.cl 107 [.p 10000, .p 10001])] (Vw l q w z B D))
abbrev VY:=λ(D:List bV) l q w z B=>dec (VG l q w) (Rn 102 [(.pv (.dy 4 (List.map bV.iX D))),(.cl 103 [.p 10000])] (tl3 l q w z B))
abbrev aac:=λD l q w z B=>dec (VG l q w) (Rn 103 [(kq D),(.ptr 10000 0)] (tl3 l q w z B))
abbrev vz:=λD F l q w z B=>dec (L4 l q w) (Rn 104 [(.ptr 10000 0),(eL D),(aG F)] (Zd l q w z B))
abbrev Mg:=λF D l q w z B=>dec (L4 l q w) (Rn 105 [(.ptr 10000 0),(eL F),(mW D)] (Zd l q w z B))
abbrev Jo:=λD F l q w z B=>dec (L4 l q w) (Rn 106 [(.ptr 10000 0),(eL D),(eL F)] (Zd l q w z B))
abbrev aab:=λF l q w z B D=>dec (E533r l q w z) (Rn 107 [(kq F),(.ptr 10000 0),(.ptr 10001 0)] (Vw l q w z B D))
abbrev E534r (l:List fG) (q:List cU) (w:List Template):=eD Q12 (dI 10000 (iL 84 [(eT l),(er q),(dc w),(.row 10001)] 2 Node.enc) (dJ 10001 (iM 9 107 V9 Cp) dZ))
abbrev A3:=λF B l q w z D=>dec (E534r l q w) (Rn 108 [(.ptr 10000 0),(eL F),(dm B)] (Zd l q w z D))
abbrev ID:=λF G I D l q w z B=>hx (E534r l q w) 108 3 [10000,10001] [(0,(.ptr 10000 0)),(7,(.row 11)),(12,(dm F)),(13,(aG G)),(14,(aG I))] ((11,(dY D))::(Zd l q w z B))
abbrev E535r (l:List fG) (q:List cU) (w:List Template):=eD Q17 (dI 10000 (iL 84 [(eT l),(er q),(dc w),(.row 10001)] 2 Node.enc) (dJ 10001 (iM 9 107 V9 Cp) dZ))
abbrev Mh:=λ(D:List bV) F l q w z B=>dec (E535r l q w) (Rn 109 [(.ptr 10000 0),(.pv (.dy 4 (List.map bV.iX D))),(eL F)] (Zd l q w z B))
abbrev Cj:=λI (D:List bV) F G l q w z B=>hx (E535r l q w) 109 2 [10000,10001] [(0,(.ptr 10000 0)),(2,(eL I)),(10,(.pv (.dy 4 (List.map bV.iX D)))),(11,(aG F)),(12,(aG G))] (Zd l q w z B)
abbrev VF (l:List fG) (q:List cU):=eD Q2 (dT 10000 (.box 184 [(eT l),(er q),(.row 20001),(.row 20002)]) (dI 20001 (iR 3 1 (dX .i64)) (dJ 20002 (iR 3 1 (dX .i64)) dZ)))
abbrev f461:=λB D l q w z=>dec (VF l q) (Rn 110 [(.ptr 10000 0),(mW B),(aG D)] (tl5 l q w z))
abbrev DG:=λG B D F I l q w z=>hx (VF l q) 110 2 [10000,20001,20002] [(0,(.ptr 10000 0)),(2,(aG G)),gF 4,(18,(kO B)),(19,(aG D)),(20,(aG F))] ((4,(e8 I))::(tl5 l q w z))
abbrev Ci:=λG B D F l q w z=>hx (VF l q) 110 8 [10000,20001,20002] [(0,(.ptr 10000 0)),(2,(aG G)),(44,(kO B)),(45,(aG D)),(46,(aG F))] (tl5 l q w z)
abbrev f462:=λl=>rn Q27 111 [(dK l)]
abbrev f340:=λw l q=>rn Q2 112 [(ck w),(aG l),(aG q)]
abbrev f536:=λw l z q=>rn Q7 113 [(ck w),(mW l),(eL z),(mW q)]
abbrev f537:=λq l w z=>rn Q7 114 [(ck q),(mW l),(eL w),(eL z)]
abbrev f336:=λw l q=>rn Q16 115 [(ck w),(aG l),(aG q)]
abbrev f356:=λq w l=>rn Q16 116 [(ck q),(aG w),(aG l)]
abbrev Pq:=λl w q=>hd Q16 116 3 [(2,(aG l)),(8,(Kh w)),(9,(aG q))] []
abbrev f140:=λq l=>rn Q2 117 [(uh q),(Tj l)]
abbrev KN:=λw l q=>hd Q2 117 4 [(0,(uh w)),(1,(Tj l)),(5,(aG q))] []
abbrev f555:=λl q=>rn Q2 124 [(dm l),(uh q)]
abbrev P3:=λq w l=>hd Q2 124 2 [(0,(dm q)),(1,(uh w)),(5,(aG l))] []
abbrev f346:=λl=>rn Q8 125 [(bH l)]
abbrev KR:=λq l w=>hd Q8 125 3 [(0,(bH q)),(3,(dm l)),(4,(aG w))] []
abbrev KS:=λq l w B z=>hd Q8 125 7 [(0,(bH q)),(3,(dm l)),(4,(aG w)),(5,(ES B)),(6,(aG z))] []
abbrev Il:=λq l w B z D=>hd Q8 125 12 [(0,(bH q)),(3,(dm l)),(4,(aG w)),(5,(ES B)),(6,(aG z)),(7,(aG D))] []
abbrev f98:=λl q=>rn Q13 126 [(dm l),(uh q)]
abbrev Xv:=λl w z q=>hd Q13 126 3 [(0,(dm l)),(1,(uh w)),yz 5,(6,(aG z))] [(5,(gb q))]
abbrev f373:=λq l=>rn Q22 127 [(Hl q),(uh l)]
abbrev Pw:=λl q w=>hd Q22 127 2 [(1,(uh l)),gF 2,(6,(aG q))] [(2,(rR w))]
abbrev f61:=λl q=>rn Q18 128 [(gN l),(gN q)]
abbrev Xp:=λl q w z=>hd Q18 128 3 [(0,(gN l)),(1,(gN q)),yz 5,(6,(aG w))] [(5,(yg z))]
abbrev f60:=λl=>rn Q18 129 [(gN l)]
abbrev Xo:=λl q=>hd Q18 129 2 [(0,(gN l)),(3,(aG q))] []
abbrev f57:=λl q=>rn Q2 130 [(gN l),(gN q)]
abbrev Xn:=λl q w=>hd Q2 130 4 [(0,(gN l)),(1,(gN q)),(5,(aG w))] []
abbrev f70:=λl=>rn Q8 131 [(bH l)]
abbrev Xs:=λl q=>hd Q8 131 4 [(0,(bH l)),(3,(aG q))] []
abbrev f71:=λl=>rn Q8 132 [(bH l)]
abbrev Xt:=λl q=>hd Q8 132 2 [(0,(bH l)),(3,(aG q))] []
abbrev f72:=λl=>rn Q8 133 [(bH l)]
abbrev SZ:=λl q=>hd Q8 133 2 [(0,(bH l)),(3,(aG q))] []
abbrev Xu:=λl q z w=>hd Q8 133 6 [(0,(bH l)),(3,(aG q)),(4,(dm z)),(5,(aG w))] []
abbrev f73:=λl=>rn Q13 134 [(bH l)]
abbrev Lc:=λq l w=>hd Q13 134 3 [(0,(bH q)),yz 3,(4,(Tj l))] [(3,(gb w))]
abbrev Ft:=λw l q z B=>hd Q13 134 7 [(0,(bH w)),yz 3,(4,(Tj l)),(5,(uh q)),(6,(aG z))] [(3,(gb B))]
abbrev f99:=λq l=>rn Q13 135 [(bH q),(uh l)]
abbrev S0:=λq w l=>hd Q13 135 5 [(0,(bH q)),(5,(.row 15)),(6,(aG w))] [(15,(gb l))]
abbrev M6:=λq w k7 l=>hd Q13 135 8 [(0,(bH q)),(5,(.row 15)),(6,(aG w)),(7,(aG k7))] [(15,(gb l))]
abbrev Gt:=λl w q=>hd Q13 135 14 [(5,(.row 15)),(8,(dm l)),(9,(aG w))] [(15,(gb q))]
abbrev f37:=λl q=>rn Q2 136 [(dm l),(uh q)]
abbrev Xl:=λq w l=>hd Q2 136 2 [(0,(dm q)),(1,(uh w)),(5,(aG l))] []
abbrev f100:=λl=>rn Q29 137 [(eL l)]
abbrev Pc:=λq l w=>hd Q29 137 3 [(0,(eL q)),(4,(.row 6)),(5,(aG l))] [(6,(yg w))]
abbrev f101:=λq l=>rn Q2 138 [(vg q),(gN l)]
abbrev Pd:=λw l q=>hd Q2 138 2 [(0,(vg w)),(1,(gN l)),(5,(aG q))] []
abbrev f102:=λl q=>rn Q2 139 [(gN l),(gN q)]
abbrev f103:=λl q=>rn Q2 140 [(gN l),(aG q)]
abbrev f104:=λl q=>rn Q13 141 [(bH l),(dm q)]
abbrev Gj:=λq l w z=>hd Q13 141 4 [(0,(bH q)),yz 5,(6,(dm l)),(7,(aG w))] [(5,(gb z))]
abbrev Gk:=λB q D z l w F=>hd Q13 141 9 [(0,(bH B)),yz 5,(6,(dm q)),(7,(aG D)),(8,(dm z)),(9,(Tj l)),(10,(aG w))] [(5,(gb F))]
abbrev f105:=λl=>rn Q8 142 [(gN l)]
abbrev f65:=λl q=>rn Q2 143 [(gN l),(gN q)]
abbrev f538:=λl=>rn Q2 144 [(kq l)]
abbrev La:=λl q=>hd Q2 144 6 [gF 1,(3,(aG l))] [(1,(ki q))]
abbrev f426:=λq l=>rn Q21 147 [(eL q),(mW l)]
abbrev Gm:=λF q w z B D l=>hd Q21 147 3 [(0,(eL F)),gF 3,gF 4,gF 5,(13,(eL q)),(14,(aG w)),(15,(aG z))] (tl7 B D l)
abbrev KU:=λF q w z B D l=>hd Q21 147 8 [(0,(eL F)),gF 4,gF 5,(33,(dK q)),(34,(aG w)),(35,(aG z))] (tl7 B D l)
abbrev Iu:=λQ B D F G I K L N O l q w z=>hd Q21 147 12 [(0,(eL Q)),gF 4,gF 5,gF 10,(33,(dK B)),(34,(aG D)),(35,(aG F)),(43,(kO G)),(44,(aG I)),(45,(aG K))] [(3,(e8 L)),(4,(e8 N)),(5,(.box 30 [(.row 5080)])),(9,(BV O)),(10,(.box 60 [(aG l),(.row 5657)])),(5080,(dV q)),(5161,(iO w)),(5657,(iO z))]
abbrev f425:=λl=>rn Q21 148 [(aG l)]
abbrev f438:=λq l w z=>rn Q7 152 [(ck q),(mW l),(eL w),(eL z)]
abbrev f353a:=λq (l:List UInt8)=>rn Q8 153 [(eT q),(.pv (.fn 154 [(.ref [(.str l)])]))]
abbrev f353:=λq (l:List Int)=>rn Q8 153 [(eT q),(.pv (.fn 225 [(.ref [(.dy 1 (List.map (dX .u64) l))])]))]
abbrev Ip:=λq (l:List UInt8) w z=>hd Q8 153 2 [(0,(eT q)),(1,(.pv (.fn 154 [(.ref [(.str l)])]))),(7,(aG w)),(8,(aG z))] []
abbrev Po:=λq (l:List Int) w z=>hd Q8 153 2 [(0,(eT q)),(1,(.pv (.fn 225 [(.ref [(.dy 1 (List.map (dX .u64) l))])]))),(7,(aG w)),(8,(aG z))] []
abbrev f374:=λq (l:List UInt8)=>rn Q2 154 [(Sn q),(.pv (.ref [(.str l)]))]
abbrev f541:=λl=>rn Q3 155 [(ck l),(.pv (.dy 1 (List.map FSt.enc []))),(.pv (.fn 156 []))]
abbrev f551:=λl=>rn Q8 156 [(Sq l)]
abbrev E543r (l:List Int) (q:List fG) (w:List cU) (z:List Template):=eD Q8 (dT 10000 (.box 68 [(.ptr 10002 0)]) (dT 10001 (.box 107 [(eL l)]) (dI 10002 (iL 84 [(eT q),(er w),(dc z),(.row 10003)] 2 Node.enc) (dJ 10003 (iM 9 107 V9 Cp) dZ))))
abbrev VH (l:List fG) (q:List cU) (w:List Template):=eD Q8 (dT 10000 (.box 68 [(.ptr 10001 0)]) (dI 10001 (iL 84 [(eT l),(er q),(dc w),(.row 10002)] 2 Node.enc) (dJ 10002 (iM 9 107 V9 Cp) dZ)))
abbrev f543b:=λ(F:List bV) l q w z B D=>dec (E543r l q w z) (Rn 157 [(.pv (.dy 4 (List.map bV.iX F))),(.cl 107 [.p 10000, .p 10001])] (Vw l q w z B D))
abbrev f543c:=λ(D:List bV) l q w z B=>dec (VH l q w) (Rn 157 [(.pv (.dy 4 (List.map bV.iX D))),(.cl 103 [.p 10000])] (tl3 l q w z B))
abbrev Ck:=λ(F:List bV) G I l q w z B D=>hx (E543r l q w z) 157 2 [10000,10001,10002,10003] [(0,(.pv (.dy 4 (List.map bV.iX F)))),(1,(.cl 107 [.p 10000, .p 10001])),(7,(aG G)),(8,(aG I))] (Vw l q w z B D)
abbrev IE:=λ(D:List bV) F G l q w z B=>hx (VH l q w) 157 2 [10000,10001,10002] [(0,(.pv (.dy 4 (List.map bV.iX D)))),(1,(.cl 103 [.p 10000])),(7,(aG F)),(8,(aG G))] (tl3 l q w z B)
abbrev f542:=λw l z q=>rn Q7 158 [(ck w),(mW l),(eL z),(mW q)]
abbrev f460:=λl=>rn Q20 159 [(eL l)]
abbrev f472:=λB D l q w z=>dec (VF l q) (Rn 160 [(.ptr 10000 0),(aG B),(aG D)] (tl5 l q w z))
abbrev f355:=λq w l=>rn Q16 161 [(ck q),(aG w),(aG l)]
abbrev Ir:=λz l q w=>hd Q16 161 2 [(2,(aG z)),(15,(Kh l)),(16,(aG q)),(17,(aG w))] []
abbrev f440:=λw l q=>rn Q7 162 [(ck w),(mW l),(mW q)]
abbrev f430:=λq l=>rn Q21 163 [(eL q),(mW l)]
abbrev KV:=λB q w z l=>hd Q21 163 3 [(0,(eL B)),gF 3,gF 4,gF 5,(6,(aG q))] (tl7 w z l)
abbrev KW:=λB q w z l=>hd Q21 163 7 [(0,(eL B)),gF 3,gF 4,gF 5,(7,(aG q))] (tl7 w z l)
abbrev Iv:=λK D F B G I z l q w=>hd Q21 163 12 [(0,(eL K)),gF 3,gF 4,gF 5,(7,(aG D)),gF 8,(9,(kO F)),(10,(aG B))] [(3,(e8 G)),(4,(e8 I)),(5,(.box 30 [(.row 5080)])),(8,(.box 60 [(aG z),(.row 5705)])),(5080,(dV l)),(5129,(iO q)),(5705,(iO w))]
abbrev f544:=λl q=>rn Q21 164 [(eL l),(eL q)]
abbrev f354:=λq l=>rn Q16 165 [(ck q),(gN l)]
abbrev Pp:=λl q w=>hd Q16 165 2 [(1,(gN l)),gF 2,(6,(aG q))] [(2,(dH w))]
abbrev f159:=λl=>rn Q2 166 [(W5 l)]
abbrev f160:=λq l=>rn Q2 167 [(W5 q),(Tj l)]
abbrev f372:=λl=>rn Q2 176 [(uh l)]
abbrev f106:=λl q=>rn Q30 177 [(gN l),(aG q)]
abbrev f111:=λq l=>rn Q8 178 [(bH q),(uh l)]
abbrev Pf:=λq l w=>hd Q8 178 2 [(0,(bH q)),(1,(uh l)),(5,(aG w))] []
abbrev f112:=λq l=>rn Q2 179 [(Hl q),(dm l)]
abbrev Pg:=λl q w=>hd Q2 179 2 [(1,(dm l)),gF 2,(5,(aG q))] [(2,(rR w))]
abbrev f137:=λl q=>rn Q13 180 [(bH l),(dm q)]
abbrev KJ:=λq z l w=>hd Q13 180 3 [(0,(bH q)),(1,(dm z)),(5,(dm l)),(6,(aG w))] []
abbrev f138:=λq l=>rn Q13 181 [(bH q),(uh l)]
abbrev KK:=λq w l=>hd Q13 181 5 [(0,(bH q)),(5,(.row 16)),(6,(aG w))] [(16,(gb l))]
abbrev KL:=λq w B z l=>hd Q13 181 9 [(0,(bH q)),(5,(.row 16)),(6,(aG w)),(7,(dm B)),(8,(aG z))] [(16,(gb l))]
abbrev Cg:=λl q w=>hd Q13 181 15 [(5,(.row 16)),(9,(dm l)),(10,(aG q))] [(16,(gb w))]
abbrev f139:=λl=>rn Q12 182 [(gN l)]
abbrev KM:=λl q w=>hd Q12 182 3 [(0,(gN l)),yz 3,(4,(aG q))] [(3,(dY w))]
abbrev f108:=λl q=>rn Q18 183 [(gN l),(gN q)]
abbrev Pe:=λl q w z=>hd Q18 183 3 [(0,(gN l)),(1,(gN q)),yz 5,(6,(aG w))] [(5,(yg z))]
abbrev f545:=λl=>rn Q2 184 [(aG l)]
abbrev f554:=λl=>rn Q2 185 [(kq l)]
abbrev Cl:=λq l w=>hd Q2 185 13 [gF 1,(3,(aG q)),(4,(aG l))] [(1,(ki w))]
abbrev f433:=λw l q=>rn Q7 186 [(ck w),(mW l),(mW q)]
abbrev Zi (l:List fG) (q:List cU):=eD Q26 (dT 10000 (.box 257 [(eT l),(er q),(.row 20001),(.row 20002),(.row 20003)]) (dI 20001 (iR 3 1 (dX .i64)) (dI 20002 (iR 3 1 (dX .i64)) (dJ 20003 (iR 58 1 (mJ 2 cB.enc)) dZ))))
abbrev f442:=λD l q w z B=>dec (Zi l q) (Rn 191 [(.ptr 10000 0),(dK D)] (Xx l q w z B))
abbrev KY:=λI D F G l q w z B=>hx (Zi l q) 191 2 [10000,20001,20002,20003] [(0,(.ptr 10000 0)),(4,(aG I)),(15,(dK D)),(16,(aG F)),(17,(aG G))] (Xx l q w z B)
abbrev PD:=λQ D F G I K L N O l q w z B=>hx (Zi l q) 191 8 [10000,20001,20002,20003] [(0,(.ptr 10000 0)),(4,(aG Q)),yz 7,(15,(dK D)),(16,(aG F)),(17,(aG G)),(46,(kO I)),(47,(aG K)),(48,(aG L))] ((6,(BV N))::(7,(iO O))::(Xx l q w z B))
abbrev E443r (l:List fG) (q:List cU):=eD Q2 (dT 10000 (.box 257 [(eT l),(er q),(.row 20001),(.row 20002),(.row 20003)]) (dI 20001 (iR 3 1 (dX .i64)) (dI 20002 (iR 3 1 (dX .i64)) (dJ 20003 (iR 58 1 (mJ 2 cB.enc)) dZ))))
abbrev f443:=λD F l q w z B=>dec (E443r l q) (Rn 192 [(.ptr 10000 0),(aG D),(aG F)] (Xx l q w z B))
abbrev zG:=λF D l q w z B=>hx (E443r l q) 192 3 [10000,20001,20002,20003] [gF 3,gF 7,(8,(.cl 217 [.p 3, .p 7]))] ((3,(.box 254 [(.ptr 10000 0)]))::(7,(.box 276 [(.row 15)]))::(15,(kD F))::(5112,(kD D))::(Xx l q w z B))
abbrev E444r (l:List fG) (q:List cU):=eD Q21 (dT 10000 (.box 257 [(eT l),(er q),(.row 20001),(.row 20002),(.row 20003)]) (dI 20001 (iR 3 1 (dX .i64)) (dI 20002 (iR 3 1 (dX .i64)) (dJ 20003 (iR 58 1 (mJ 2 cB.enc)) dZ))))
abbrev f444:=λD l q w z B=>dec (E444r l q) (Rn 193 [(.ptr 10000 0),(aG D)] (Xx l q w z B))
abbrev PE:=λF I K L G D l q w z B=>hx (E444r l q) 193 3 [10000,20001,20002,20003] [(1,(aG F)),gF 2,gF 4,gF 5,(16,(aG I)),(17,(aG K))] ((2,(.box 254 [(.ptr 10000 0)]))::(4,(e8 L))::(5,(.box 107 [(.row 14)]))::(14,(dY G))::(5080,(dY D))::(Xx l q w z B))
abbrev f549:=λl=>rn Q25 194 [(ck l)]
abbrev f550:=λl=>rn Q2 195 [(.pv (.dy 1 (List.map FSt.enc []))),(aG l)]
abbrev Vu:=λl q w=>hd Q2 195 2 [(1,(aG l)),(7,(.pv (.dy 1 (List.map FSt.enc [])))),(8,(aG q)),(9,(aG w))] []
abbrev f552:=λq l=>rn Q3 196 [(Sq q),(.pv (.dy 1 (List.map FSt.enc []))),(aG l)]
abbrev acQ:=λD q w z B l=>hd Q3 196 3 [(2,(aG D)),gF 3,gF 6,gF 8,(12,(.pv (.dy 1 (List.map FSt.enc [])))),(13,(aG q)),(14,(aG w))] [(3,(GK z)),(6,(e8 B)),(8,(.box 30 [(.row 5128)])),(5128,(dV l))]
abbrev t552_3a:=λD q w z B l=>hd Q3 196 3 [(2,(aG D)),gF 3,gF 6,gF 8,(12,(.pv (.dy 1 (List.map FSt.enc [])))),(13,(aG q)),(14,(aG w))] [(3,(GK z)),(6,(e8 B)),(8,(.box 30 [(.row 5128)])),(5128,(dV l))]
abbrev f437:=λl=>rn Q3 197 [(mW l)]
abbrev PB:=λl q w z B=>hd Q3 197 6 [gF 1,gF 2,(18,(dK l)),(19,(aG q)),(20,(aG w))] [(1,(e8 z)),(2,(e8 B))]
abbrev f335:=λw l q=>rn Q16 198 [(ck w),(aG l),(aG q)]
abbrev f448:=λl q=>rn Q28 199 [(dK l),(dK q)]
abbrev KZ:=λl q w z=>hd Q28 199 3 [(0,(dK l)),(1,(dK q)),(5,(.row 9)),(6,(aG w))] [(9,(dV z))]
abbrev PF:=λz B D F w G l q=>hd Q28 199 7 [(0,(dK z)),(1,(dK B)),(5,(.row 9)),(6,(aG D)),gF 7,(8,(aG F))] [(7,(.box 60 [(aG w),(.row 5369)])),(9,(dV G)),(5113,(iO l)),(5369,(iO q))]
abbrev f451:=λq l=>rn Q12 200 [(dK q),(eL l)]
abbrev K1:=λz D w B l q=>hd Q12 200 5 [(0,(dK z)),(1,(eL D)),(5,(.row 20)),(6,(.row 23)),yz 7,(8,(aG w))] [(7,(kD B)),(20,(dY l)),(23,(nY q))]
abbrev td:=λw z l q=>hd Q12 200 11 [(5,(.row 20)),(6,(.row 23)),yz 7,(9,(aG w))] [(7,(kD z)),(20,(dY l)),(23,(nY q))]
abbrev zH:=λD q l w F z B=>hd Q12 200 17 [(5,(.row 20)),(6,(.row 23)),yz 7,(9,(aG D)),(10,(aG q)),(11,(aG l)),(12,(aG w))] [(7,(kD F)),(20,(dY z)),(23,(nY B))]
abbrev Fh:=λF q l z G B D w=>hd Q12 200 23 [(5,(.row 20)),(6,(.row 23)),yz 7,(9,(aG F)),(10,(aG q)),(11,(aG l)),(13,(.row 112)),(14,(aG z))] [(7,(kD G)),(20,(dY B)),(23,(nY D)),(112,(iO w))]
abbrev f450:=λl q w=>rn Q12 201 [(eL l),(aG q),(aG w)]
abbrev K0:=λq l w YF=>hd Q12 201 5 [(7,(aG q)),(8,(aG l)),(9,(.row 29)),(10,(aG w))] [(29,(dY YF))]
abbrev f449:=λl=>rn Q20 202 [(aG l)]
abbrev PG:=λq l w=>hd Q20 202 3 [(0,(aG q)),yz 3,(4,(aG l))] [(3,(dY w))]
abbrev f452:=λq w l=>rn Q17 203 [(ck q),(dK w),(eL l)]
abbrev BG:=λw B q z l=>hd Q17 203 3 [(1,(dK w)),(2,(eL B)),gF 3,(8,(.row 15)),(9,(aG q))] [(3,(dH z)),(15,(dY l))]
abbrev Fi:=λw z l q=>hd Q17 203 10 [(1,(dK w)),(2,(eL z)),(8,(.row 15)),(12,(aG l))] [(15,(dY q))]
abbrev f453:=λz w l q=>rn Q21 204 [(dK z),(eL w),(eL l),(aG q)]
abbrev Fj:=λD G q z B F w l=>hd Q21 204 3 [(0,(dK D)),(1,(eL G)),(2,(eL q)),(3,(aG z)),gF 8,gF 9,(10,(aG B))] (tl8 F w l)
abbrev Ch:=λB F w z D q l=>hd Q21 204 7 [(0,(dK B)),(1,(eL F)),(3,(aG w)),gF 8,gF 9,(11,(aG z))] (tl8 D q l)
abbrev BH:=λF I w B z D G q l=>hd Q21 204 11 [(0,(dK F)),(1,(eL I)),(3,(aG w)),gF 8,gF 9,(11,(aG B)),(12,(aG z)),(13,(aG D))] (tl8 G q l)
abbrev f553:=λw (q:List Node) (l:List (Option (List cB)))=>dec (HE) (Rn 205 [(.ag [.r 9000]),(eL w)] [(9000,(.rn 60 2 1 57 2 (List.map (kj Node.enc 1) q) (oM cB.enc l)))])
abbrev zN:=λD z w B (q:List Node) (l:List (Option (List cB)))=>hx (HE) 205 3 [] [(1,(eL D)),gF 2,gF 4,(6,(aG z)),(7,(aG w))] [(2,(.box 30 [(.row 9000)])),(4,(e8 B)),(9000,(.rn 60 2 1 57 2 (List.map (kj Node.enc 1) q) (oM cB.enc l)))]
abbrev f166:=λl=>rn Q2 206 [(W5 l)]
abbrev f167:=λl=>rn Q2 207 [(W5 l)]
abbrev E486r (l:List fG) (q:List cU):=eD Q2 (dT 10000 (.box 254 [(.ptr 10002 0)]) (dT 10001 (.box 276 [(.row 20003)]) (dT 10002 (.box 257 [(eT l),(er q),(.row 20004),(.row 20005),(.row 20006)]) (dI 20003 (iR 275 2 dL.enc) (dI 20004 (iR 3 1 (dX .i64)) (dI 20005 (iR 3 1 (dX .i64)) (dJ 20006 (iR 58 1 (mJ 2 cB.enc)) dZ)))))))
abbrev f486:=λF G l q w z B D=>dec (E486r l q) (Rn 217 [(aG F),(aG G),(.ptr 10000 0),(.ptr 10001 0)] (tl6 l q w z B D))
abbrev nZ:=λI K G F l q w z B D=>hx (E486r l q) 217 8 [10000,10001,10002,20003,20004,20005,20006] [(0,(aG I)),(2,(.ptr 10000 0)),(3,(.ptr 10001 0)),(9,(kO K)),(10,(kO G)),yz 11] ((11,(iO F))::(tl6 l q w z B D))
abbrev E485r (l:List fG) (q:List cU):=eD Q8 (dT 10000 (.box 257 [(eT l),(er q),(.row 20001),(.row 20002),(.row 20003)]) (dI 20001 (iR 3 1 (dX .i64)) (dI 20002 (iR 3 1 (dX .i64)) (dJ 20003 (iR 58 1 (mJ 2 cB.enc)) dZ))))
abbrev f485:=λD l q w z B=>dec (E485r l q) (Rn 218 [(.ptr 10000 0),(aG D)] (Xx l q w z B))
abbrev K5:=λD l q w z B=>hx (E485r l q) 218 1 [10000,20001,20002,20003] [(0,(.ptr 10000 0)),(1,(aG D))] (Xx l q w z B)
abbrev E487r (l:List fG) (q:List cU):=eD Q8 (dT 10000 (.box 254 [(.ptr 10004 0)]) (dT 10001 (.box 107 [(.row 20005)]) (dT 10002 (.box 30 [(.row 20006)]) (dT 10003 (.box 277 [(.cl 219 [.p 10000, .p 10001, .p 10002, .p 10003])]) (dT 10004 (.box 257 [(eT l),(er q),(.row 20007),(.row 20008),(.row 20009)]) (dI 20005 (iR 3 1 (dX .i64)) (dI 20006 (iR 60 2 Node.enc) (dI 20007 (iR 3 1 (dX .i64)) (dI 20008 (iR 3 1 (dX .i64)) (dJ 20009 (iR 58 1 (mJ 2 cB.enc)) dZ))))))))))
abbrev f487:=λG l q w z B D F=>dec (E487r l q) (Rn 219 [(aG G),(.ptr 10000 0),(.ptr 10001 0),(.ptr 10002 0),(.ptr 10003 0)] (tl4 l q w z B D F))
abbrev PL:=λN G I K L l q w z B D F=>hx (E487r l q) 219 9 [10000,10001,10002,10003,10004,20005,20006,20007,20008,20009] [(3,(.ptr 10002 0)),(4,(.ptr 10003 0)),(7,(aG N)),yz 8,(49,(kO G)),(50,(aG I)),(51,(aG K))] ((8,(iO L))::(tl4 l q w z B D F))
abbrev f339:=λw l q=>rn Q2 220 [(ck w),(aG l),(aG q)]
abbrev f559:=λq l=>dec (Nd) (Rn 221 [(.row 20000),(dK q)] [(20000,(dV l))])
abbrev f456:=λq l=>rn Q8 222 [(pg_Node q),(aG l)]
abbrev K3:=λl w z B D q=>hd Q8 222 5 [(1,(aG l)),(5,(.row 11)),(13,(kO w)),(14,(aG z)),(15,(aG B))] [(2,(BV D)),(11,(R6 q))]
abbrev f457:=λq l=>rn Q21 223 [(mW q),(aG l)]
abbrev K4:=λD F G I z B l q w=>hd Q21 223 8 [gF 2,gF 4,gF 5,gF 8,(22,(.row 5096)),(23,(aG D)),(24,(aG F))] [(2,(e8 G)),(4,(e8 I)),(5,(.box 312 [(.row 13)])),(6,(.box 107 [(.row 5096)])),(8,(.box 30 [(.row 20)])),(13,(wN z)),(20,(dV B)),(5096,(dY l)),(5128,(dV q)),(5336,(dV w))]
abbrev Fk:=λN z G I K L O Q B D F l q w=>hd Q21 223 12 [gF 2,gF 4,gF 5,gF 8,(9,(aG N)),(10,(aG z)),(11,(.row 36)),(22,(.row 5096)),(23,(aG G)),(24,(aG I)),(38,(aG K)),(39,(aG L))] [(2,(e8 O)),(4,(e8 Q)),(5,(.box 312 [(.row 13)])),(6,(.box 107 [(.row 5096)])),(8,(.box 30 [(.row 20)])),(13,(wN B)),(20,(dV D)),(36,(iO F)),(5096,(dY l)),(5128,(dV q)),(5336,(dV w))]
abbrev f29:=λl q=>rn Q18 224 [(gN l),(gN q)]
abbrev SU:=λz B q w l=>hd Q18 224 3 [(0,(gN z)),(1,(gN B)),(5,(.row 12)),(14,(aG q)),(15,(aG w))] [(12,(yg l))]
abbrev f371:=λq (l:List Int)=>rn Q2 225 [(Sn q),(.pv (.ref [(.dy 1 (List.map (dX .u64) l))]))]
abbrev f31:=λl q=>rn Q2 226 [(gN l),(gN q)]
abbrev f491:=λq l=>rn Q16 227 [(kO q),(aG l)]
abbrev PN:=λw l q=>hd Q16 227 2 [(0,(kO w)),(1,(aG l)),(6,(aG q))] []
abbrev f476:=λq w l=>rn Q16 228 [(mW q),(aG w),(aG l)]
abbrev PK:=λl w q=>hd Q16 228 3 [(2,(aG l)),(8,(kO w)),(9,(aG q))] []
abbrev f436:=λq l=>rn Q21 229 [(mW q),(aG l)]
abbrev PA:=λB D F G l q w z=>hd Q21 229 3 [(1,(aG B)),gF 2,gF 4,(5,(.ptr 14 0)),(6,(aG D))] [(2,(e8 F)),(4,(e8 G)),(14,(.box 321 [(dK l),(.row 5209),(.row 5210)])),(5208,(dV q)),(5209,(dY w)),(5210,(dY z))]
abbrev Gp:=λD F G l q w z B=>hd Q21 229 9 [gF 2,gF 4,(5,(.ptr 14 0)),gF 7,(8,(aG D))] [(2,(e8 F)),(4,(e8 G)),(7,(.box 30 [(.row 5112)])),(14,(.box 321 [(dK l),(.row 5209),(.row 5210)])),(5112,(dV q)),(5208,(dV w)),(5209,(dY z)),(5210,(dY B))]
abbrev Fg:=λG D I K L l F q w z B=>hd Q21 229 14 [gF 2,gF 4,(5,(.ptr 14 0)),gF 7,(8,(aG G)),gF 9,(10,(.row 56)),(11,(aG D))] [(2,(e8 I)),(4,(e8 K)),(7,(.box 30 [(.row 5112)])),(9,(BV L)),(14,(.box 321 [(dK l),(.row 5209),(.row 5210)])),(56,(iO F)),(5112,(dV q)),(5208,(dV w)),(5209,(dY z)),(5210,(dY B))]
abbrev f63:=λl q=>rn Q2 261 [(gN l),(gN q)]
abbrev Xq:=λl q w z=>hd Q2 261 2 [(1,(gN l)),(7,(gN q)),(8,(aG w)),(9,(aG z))] []
abbrev E488r (l:FSt):=eD Q26 (dT 10000 (.box 107 [(.row 20004)]) (dT 10001 (.box 312 [(.row 10005)]) (dT 10002 (e8 l) (dT 10003 (.box 313 [(.cl 262 [.p 10000, .p 10001, .p 10002, .p 10003])]) (dI 20004 (iR 3 1 (dX .i64)) (dJ 10005 (iM 3 3 V3 V3) dZ))))))
abbrev f488:=λz l w q=>dec (E488r l) (Rn 262 [(aG z),(.ptr 10000 0),(.ptr 10001 0),(.ptr 10002 0),(.ptr 10003 0)] [(10000,(.box 107 [(.row 20004)])),(10001,(.box 312 [(.row 10005)])),(10002,(e8 l)),(10003,(.box 313 [(.cl 262 [.p 10000, .p 10001, .p 10002, .p 10003])])),(20004,(dY w)),(10005,(wN q))])
abbrev K6:=λz B Y8 l q w=>hx (E488r l) 262 3 [10000,10001,10002,10003,20004,10005] [(2,(.ptr 10001 0)),(4,(.ptr 10003 0)),yz 25,(26,(aG z)),(27,(aG B))] [(25,(iO Y8)),(10000,(.box 107 [(.row 20004)])),(10001,(.box 312 [(.row 10005)])),(10002,(e8 l)),(10003,(.box 313 [(.cl 262 [.p 10000, .p 10001, .p 10002, .p 10003])])),(10005,(wN q)),(20004,(dY w))]
abbrev f490:=λ(l:List cB)=>rn Q32 263 [(.pv (.fn 305 [(.ref [(.dy 2 (List.map cB.enc l))])])),(.pv (.fn 265 []))]
abbrev f489:=λl=>rn Q31 264 [(kO l)]
abbrev f68:=λl=>rn Q18 266 [(gN l)]
abbrev Xr:=λl q=>hd Q18 266 2 [(0,(gN l)),(3,(aG q))] []
abbrev E455r (l:List Node):=eD Q26 (dT 10000 (.box 321 [(dK l),(.row 20001),(.row 20002)]) (dI 20001 (iR 3 1 (dX .i64)) (dJ 20002 (iR 3 1 (dX .i64)) dZ)))
abbrev f455:=λz l q w=>dec (E455r l) (Rn 267 [(.ptr 10000 0),(aG z)] [(10000,(.box 321 [(dK l),(.row 20001),(.row 20002)])),(20001,(dY q)),(20002,(dY w))])
abbrev K2:=λB z l q w=>hx (E455r l) 267 4 [10000,20001,20002] [(0,(.ptr 10000 0)),(4,(kO B)),(5,(aG z))] [(10000,(.box 321 [(dK l),(.row 20001),(.row 20002)])),(20001,(dY q)),(20002,(dY w))]
abbrev f463:=λl=>rn Q32 268 [(kO l)]
abbrev zI:=λq l w=>hd Q32 268 3 [(0,(kO q)),yz 3,(4,(aG l))] [(3,(iO w))]
abbrev Iy:=λq l z w=>hd Q32 268 6 [(0,(kO q)),yz 3,(4,(aG l)),(5,(aG z))] [(3,(iO w))]
abbrev f107:=λl q=>rn Q30 302 [(gN l),(aG q)]
end
