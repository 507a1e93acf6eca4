/- The functions and loops as plain ones, by program (decomp4.p. -/
import Derived.Test.YthppjmoncapdfaaGreatDoorClT
set_option maxRecDepth 100000
set_option linter.all false
namespace Go.Proofs.YthppjmoncapdfaaGreatDoor.cl
noncomputable section
open Go Go.AM
abbrev f396:=fun d0 f1=>rn Q0 7 [(aJ d0),(mC f1)]
abbrev Oz:=fun l6 i7 o3 o5=>hd Q0 7 8 [kZ 3,kZ 5,(6,(Nx l6)),(7,(aC i7))] [(3,(ek o3)),(5,(fI o5))]
abbrev f399:=rn Q0 10 []
abbrev f400:=fun f0=>rn Q1 12 [(mC f0)]
abbrev OA:=fun v12 xE BW o1 o3=>hd Q1 12 3 [kZ 1,Bp 3,(12,(Be v12)),(13,(aC xE)),(14,(aC BW))] [(1,(ek o1)),(3,(Bg o3))]
abbrev OB:=fun v36 v37 v38 o3 o6=>hd Q1 12 9 [Bp 3,kZ 6,(36,(Gl v36)),(37,(aC v37)),(38,(aC v38))] [(3,(Bg o3)),(6,(fI o6))]
abbrev f401:=fun f0=>rn Q1 13 [(mC f0)]
abbrev OC:=fun EZ i5 o1 o3=>hd Q1 13 4 [kZ 1,Bp 3,(4,(Be EZ)),(5,(aC i5))] [(1,(ek o1)),(3,(Bg o3))]
abbrev OD:=fun l6 i7 o3=>hd Q1 13 9 [Bp 3,(6,(Gl l6)),(7,(aC i7))] [(3,(Bg o3))]
abbrev f403:=fun d0=>rn Q2 14 [(aJ d0)]
abbrev f407:=fun a0 b1=>rn Q0 16 [(mC a0),(mC b1)]
abbrev f412:=fun h0 a1 b2=>rn Q0 20 [(gL h0),(mC a1),(mC b2)]
abbrev f408:=fun h0 f1=>rn Q0 21 [(gL h0),(mC f1)]
abbrev f409:=fun f0=>rn Q4 22 [(mC f0)]
abbrev Kh:=fun ji n5 o1 o4=>hd Q4 22 4 [kZ 1,(3,(Be ji)),Bp 4,(5,(aC n5))] [(1,(ek o1)),(4,(rU o4))]
abbrev Ki:=fun ji n5 l6 k7 o1 o4=>hd Q4 22 8 [kZ 1,(3,(Be ji)),Bp 4,(5,(aC n5)),(6,(jt l6)),(7,(aC k7))] [(1,(ek o1)),(4,(rU o4))]
abbrev f420:=fun h0 l1=>rn Q9 23 [(gL h0),(Nx l1)]
abbrev UJ:=fun Kz v20 v21 o2 o4 o6=>hd Q9 23 5 [kZ 2,kZ 4,kZ 6,(19,(Nx Kz)),(20,(aC v20)),(21,(aC v21))] [(2,(fI o2)),(4,(ek o4)),(6,(ek o6))]
abbrev HJ:=fun Kz v20 v21 o2 o4 o6 o9=>hd Q9 23 5 [kZ 2,kZ 4,kZ 6,(19,(Nx Kz)),(20,(aC v20)),(21,(aC v21))] [(2,(fI o2)),(4,(ek o4)),(6,(ek o6)),(9,(ek o9))]
abbrev f410:=fun h0 f1=>rn Q5 24 [(gL h0),(mC f1)]
abbrev Kj:=fun i7 o2 o3 o5=>hd Q5 24 5 [kZ 2,kZ 3,kZ 5,(7,(aC i7))] [(2,(fI o2)),(3,(ek o3)),(5,(ek o5))]
abbrev HI:=fun i7 k9 o2 o3 o5 o8=>hd Q5 24 11 [kZ 2,kZ 3,kZ 5,(7,(aC i7)),kZ 8,(9,(aC k9))] [(2,(fI o2)),(3,(ek o3)),(5,(ek o5)),(8,(qM o8))]
abbrev f413:=fun f0=>rn Q0 26 [(mC f0)]
abbrev OE:=fun i3 o1=>hd Q0 26 4 [kZ 1,(3,(aC i3))] [(1,(ek o1))]
abbrev f421:=fun f0=>rn Q10 27 [(mC f0)]
abbrev f414:=fun t0=>rn Q3 28 [(aC t0)]
abbrev f415:=fun f0=>rn Q6 29 [(mC f0)]
abbrev f426:=fun p0 f1=>rn Q3 30 [(iE p0),(mC f1)]
abbrev OI:=fun p0 xE BW ql o3 o4 c7=>hd Q3 30 3 [(0,(iE p0)),kZ 3,kZ 4,kZ 5,(13,(iE xE)),(14,(aC BW)),(15,(aC ql))] (tl7 o3 o4 c7)
abbrev UK:=fun p0 v33 HL v35 o3 o4 c7=>hd Q3 30 8 [(0,(iE p0)),kZ 4,kZ 5,(33,(jS v33)),(34,(aC HL)),(35,(aC v35))] (tl7 o3 o4 c7)
abbrev OH:=fun p0 v33 HL v35 GD v44 v45 o3 o4 o9 Jq c7 vk D1=>hd Q3 30 12 [(0,(iE p0)),kZ 4,kZ 5,kZ 10,(33,(jS v33)),(34,(aC HL)),(35,(aC v35)),(43,(jt GD)),(44,(aC v44)),(45,(aC v45))] [(3,(ek o3)),(4,(ek o4)),(5,(.box 24 [(.row 5080)])),(9,(qM o9)),(10,(.box 52 [(aC Jq),(.row 5657)])),(5080,(lY c7)),(5161,(mh vk)),(5657,(mh D1))]
abbrev f425:=fun t0=>rn Q3 31 [(aC t0)]
abbrev f428:=fun MB=>rn Q2 32 [(aC MB)]
abbrev OL:=fun v8 v9 o2 ab9 We Wf vj tB=>hd Q2 32 3 [kZ 2,kZ 3,(8,(aC v8)),(9,(aC v9))] [(2,(fI o2)),(3,(.box 90 [(Cx ab9),(.row 5113),(.row 5114)])),(5049,(dL We)),(5050,(lD Wf)),(5113,(dL vj)),(5114,(lD tB))]
abbrev f427:=fun f0=>rn Q5 33 [(mC f0)]
abbrev Kl:=fun n3 v9 v10 v11 o1=>hd Q5 33 3 [(3,(aC n3)),(9,(jS v9)),(10,(aC v10)),(11,(aC v11))] [(1,(ek o1))]
abbrev OJ:=fun n3 v9 v10 v11 sj v17 L5 o1 o5=>hd Q5 33 6 [(3,(aC n3)),(9,(jS v9)),(10,(aC v10)),(11,(aC v11)),(16,(jt sj)),(17,(aC v17)),(18,(aC L5))] [(1,(ek o1)),(5,(qM o5))]
abbrev f429:=fun f0=>rn Q4 34 [(mC f0)]
abbrev Km:=fun ji xE BW ql o1 o4=>hd Q4 34 4 [(3,(Be ji)),Bp 4,(13,(jS xE)),(14,(aC BW)),(15,(aC ql))] [(1,(ek o1)),(4,(rU o4))]
abbrev Kn:=fun ji n5 xE BW ql v21 v22 v23 o1 o4 o6=>hd Q4 34 7 [(3,(Be ji)),Bp 4,(5,(aC n5)),(13,(jS xE)),(14,(aC BW)),(15,(aC ql)),(21,(jt v21)),(22,(aC v22)),(23,(aC v23))] [(1,(ek o1)),(4,(rU o4)),(6,(qM o6))]
abbrev f438:=fun h0 f1 p2 q3=>rn Q9 35 [(gL h0),(mC f1),(iE p2),(iE q3)]
abbrev f416:=fun f0=>rn Q6 36 [(mC f0)]
abbrev Kk:=fun i6 o1 sR pV LL=>hd Q6 36 6 [kZ 1,(3,(.row 12)),(4,(.row 16)),(5,(.row 19)),(6,(aC i6))] [(1,(ek o1)),(12,(JQ sR)),(16,(Gu pV)),(19,(eF LL))]
abbrev Et:=fun i6 l7 k8 o1 sR pV LL=>hd Q6 36 10 [kZ 1,(3,(.row 12)),(4,(.row 16)),(5,(.row 19)),(6,(aC i6)),(7,(jt l7)),(8,(aC k8))] [(1,(ek o1)),(12,(JQ sR)),(16,(Gu pV)),(19,(eF LL))]
abbrev f430:=fun p0 f1=>rn Q3 37 [(iE p0),(mC f1)]
abbrev ON:=fun p0 i6 o3 o4 c7=>hd Q3 37 3 [(0,(iE p0)),kZ 3,kZ 4,kZ 5,(6,(aC i6))] (tl7 o3 o4 c7)
abbrev UL:=fun p0 i7 o3 o4 c7=>hd Q3 37 7 [(0,(iE p0)),kZ 3,kZ 4,kZ 5,(7,(aC i7))] (tl7 o3 o4 c7)
abbrev OM:=fun p0 i7 l9 k10 o3 o4 Uj c7 vX D4=>hd Q3 37 12 [(0,(iE p0)),kZ 3,kZ 4,kZ 5,(7,(aC i7)),kZ 8,(9,(jt l9)),(10,(aC k10))] [(3,(ek o3)),(4,(ek o4)),(5,(.box 24 [(.row 5080)])),(8,(.box 52 [(aC Uj),(.row 5705)])),(5080,(lY c7)),(5129,(mh vX)),(5705,(mh D4))]
abbrev f439:=fun a0 b1=>rn Q3 38 [(iE a0),(iE b1)]
abbrev Bl:=fun a0 b1 i6 o4 (c7:List Node) (ow:List (Option (List cF)))=>hd Q3 38 4 [(0,(iE a0)),(1,(iE b1)),kZ 4,kZ 5,(6,(aC i6))] [(4,(ek o4)),(5,(.box 24 [(.row 5080)])),(5080,(.rn 52 2 1 54 2 (List.map (ni Node.enc 1) c7) (qp cF.enc ow)))]
abbrev rZ:=fun a0 b1 n7 i8 o4 (c7:List Node) (ow:List (Option (List cF)))=>hd Q3 38 10 [(0,(iE a0)),(1,(iE b1)),kZ 4,kZ 5,(7,(aC n7)),(8,(aC i8))] [(4,(ek o4)),(5,(.box 24 [(.row 5080)])),(5080,(.rn 52 2 1 54 2 (List.map (ni Node.enc 1) c7) (qp cF.enc ow)))]
abbrev f332:=fun d0=>rn Q7 39 [(aJ d0)]
abbrev Og:=fun d0 v4 l6 i9 o2 zl vX=>hd Q7 39 7 [(0,(aJ d0)),kZ 2,(4,(D7 v4)),(6,(c9 l6)),kZ 8,(9,(aC i9))] [(2,(fI o2)),(8,(.box 34 [(.row 5128),(.row 5129)])),(5128,(wK zl)),(5129,(nV vX))]
abbrev f327:=rn Q8 40 []
abbrev f418:=fun a0 b1=>rn Q5 42 [(mC a0),(mC b1)]
abbrev OF:=fun l5 m6 i7=>hd Q5 42 4 [(5,(iE l5)),(6,(iE m6)),(7,(aC i7))] []
abbrev f433:=fun h0 a1 b2=>rn Q9 45 [(gL h0),(mC a1),(mC b2)]
abbrev f423:=fun h0 a1 b2=>rn Q11 47 [(gL h0),(mC a1),(mC b2)]
abbrev OG:=fun v22 v23 o3 o4 o5 BL=>hd Q11 47 3 [kZ 3,kZ 4,kZ 5,(8,(.row 20)),(22,(aC v22)),(23,(aC v23))] [(3,(fI o3)),(4,(ek o4)),(5,(ek o5)),(20,(eF BL))]
abbrev Eu:=fun tQ v33 HL v35 o3 o4 o5 BL=>hd Q11 47 10 [kZ 3,kZ 5,(8,(.row 20)),(10,(pb_ tQ)),(33,(jS v33)),(34,(aC HL)),(35,(aC v35))] [(3,(fI o3)),(4,(ek o4)),(5,(ek o5)),(20,(eF BL))]
abbrev uL:=fun tQ k13 v33 HL v35 v60 v61 v62 o3 o4 o5 sR BL=>hd Q11 47 16 [kZ 3,kZ 5,(8,(.row 20)),(10,(pb_ tQ)),(13,(aC k13)),(33,(jS v33)),(34,(aC HL)),(35,(aC v35)),(60,(jt v60)),(61,(aC v61)),(62,(aC v62))] [(3,(fI o3)),(4,(ek o4)),(5,(ek o5)),(12,(qM sR)),(20,(eF BL))]
abbrev f445:=fun p0 q1=>rn Q0 48 [(iE p0),(iE q1)]
abbrev OT:=fun p0 q1 i5=>hd Q0 48 4 [(0,(iE p0)),(1,(iE q1)),(5,(aC i5))] []
abbrev f355:=fun h0 t1 f2=>rn Q19 50 [(gL h0),(aC t1),(aC f2)]
abbrev Om:=fun f2 ql sj v17 o3=>hd Q19 50 2 [(2,(aC f2)),(15,(Jz ql)),(16,(aC sj)),(17,(aC v17))] [(3,(fI o3))]
abbrev f339:=fun h0 a1 b2=>rn Q0 51 [(gL h0),(aC a1),(aC b2)]
abbrev f435:=fun f0=>rn Q5 52 [(mC f0)]
abbrev OP:=fun i3 o1=>hd Q5 52 6 [kZ 1,(3,(aC i3))] [(1,(ek o1))]
abbrev f436:=fun f0 qu=>rn Q3 53 [(mC f0),(aC qu)]
abbrev OQ:=fun qu i6 o2 o4 tA nR qR rM=>hd Q3 53 3 [(1,(aC qu)),kZ 2,kZ 4,(5,(.ptr 14 0)),(6,(aC i6))] [(2,(ek o2)),(4,(ek o4)),(14,(.box 133 [(jS tA),(.row 5209),(.row 5210)])),(5208,(lY nR)),(5209,(eF qR)),(5210,(eF rM))]
abbrev Fw:=fun i8 o2 o4 tA rL nR qR rM=>hd Q3 53 9 [kZ 2,kZ 4,(5,(.ptr 14 0)),kZ 7,(8,(aC i8))] [(2,(ek o2)),(4,(ek o4)),(7,(.box 24 [(.row 5112)])),(14,(.box 133 [(jS tA),(.row 5209),(.row 5210)])),(5112,(lY rL)),(5208,(lY nR)),(5209,(eF qR)),(5210,(eF rM))]
abbrev Ev:=fun i8 k11 o2 o4 o9 tA YT rL nR qR rM=>hd Q3 53 14 [kZ 2,kZ 4,(5,(.ptr 14 0)),kZ 7,(8,(aC i8)),kZ 9,(10,(.row 56)),(11,(aC k11))] [(2,(ek o2)),(4,(ek o4)),(7,(.box 24 [(.row 5112)])),(9,(qM o9)),(14,(.box 133 [(jS tA),(.row 5209),(.row 5210)])),(56,(mh YT)),(5112,(lY rL)),(5208,(lY nR)),(5209,(eF qR)),(5210,(eF rM))]
abbrev f447:=fun n0=>rn Q20 55 [(aC n0)]
abbrev f331:=fun d0=>rn Q7 56 [(aJ d0)]
abbrev Of:=fun EB IF v40 v41 v42 o2 acd zl vX Ju Wi=>hd Q7 56 12 [kZ 2,(6,(D7 EB)),(7,(c9 IF)),kZ 8,(40,(c9 v40)),(41,(aC v41)),(42,(aC v42))] [(2,(fI o2)),(8,(.box 34 [(.row 5624),(kF acd)])),(5128,(wK zl)),(5129,(nV vX)),(5624,(wK Ju)),(5625,(nV Wi))]
abbrev f460:=fun s0=>rn Q24 57 [(iE s0)]
abbrev f484:=fun s10 s21=>rn Q0 58 [(iE s10),(iE s21)]
abbrev OX:=fun s10 s21 v12 xE=>hd Q0 58 4 [(0,(iE s10)),(1,(iE s21)),(12,(aC v12)),(13,(aC xE))] []
abbrev YX (aZ:List iy) (bR:List dH):=eD Q18 (dT 10000 (.box 98 [(mN aZ),(kF bR),(.row 20001),(.row 20002),(.row 20003)]) (dI 20001 (iR 3 1 (bX .i64)) (dI 20002 (iR 3 1 (bX .i64)) (dJ 20003 (iR 50 1 (iB 2 cF.enc)) dZ))))
abbrev f442:=fun l1 aZ bR iw fP gq=>dec (YX aZ bR) (Rn 59 [(.ptr 10000 0),(jS l1)] (tl1 aZ bR iw fP gq))
abbrev Kq:=fun v4 ql sj v17 aM aV e7 bW bN=>hx (YX aM aV) 59 2 [10000,20001,20002,20003] [(0,(.ptr 10000 0)),(4,(aC v4)),(15,(jS ql)),(16,(aC sj)),(17,(aC v17))] (tl1 aM aV e7 bW bN)
abbrev OR:=fun v4 ql sj v17 v46 v47 v48 o6 o7 aM aV e7 bW bN=>hx (YX aM aV) 59 8 [10000,20001,20002,20003] [(0,(.ptr 10000 0)),(4,(aC v4)),Bp 7,(15,(jS ql)),(16,(aC sj)),(17,(aC v17)),(46,(jt v46)),(47,(aC v47)),(48,(aC v48))] ((6,(qM o6))::(7,(mh o7))::(tl1 aM aV e7 bW bN))
abbrev E443r (aZ:List iy) (bR:List dH):=eD Q0 (dT 10000 (.box 98 [(mN aZ),(kF bR),(.row 20001),(.row 20002),(.row 20003)]) (dI 20001 (iR 3 1 (bX .i64)) (dI 20002 (iR 3 1 (bX .i64)) (dJ 20003 (iR 50 1 (iB 2 cF.enc)) dZ))))
abbrev f443:=fun a1 b2 aZ bR iw fP gq=>dec (E443r aZ bR) (Rn 60 [(.ptr 10000 0),(aC a1),(aC b2)] (tl1 aZ bR iw fP gq))
abbrev yZ:=fun j0 rL aM aV e7 bW bN=>hx (E443r aM aV) 60 3 [10000,20001,20002,20003] [kZ 3,kZ 7,(8,(.cl 88 [.p 3, .p 7]))] ((3,(.box 95 [(.ptr 10000 0)]))::(7,(.box 138 [(.row 15)]))::(15,(tX j0))::(5112,(tX rL))::(tl1 aM aV e7 bW bN))
abbrev E444r (aZ:List iy) (bR:List dH):=eD Q3 (dT 10000 (.box 98 [(mN aZ),(kF bR),(.row 20001),(.row 20002),(.row 20003)]) (dI 20001 (iR 3 1 (bX .i64)) (dI 20002 (iR 3 1 (bX .i64)) (dJ 20003 (iR 50 1 (iB 2 cF.enc)) dZ))))
abbrev f444:=fun qu aZ bR iw fP gq=>dec (E444r aZ bR) (Rn 61 [(.ptr 10000 0),(aC qu)] (tl1 aZ bR iw fP gq))
abbrev OS:=fun qu sj v17 o4 Yd c7 aM aV e7 bW bN=>hx (E444r aM aV) 61 3 [10000,20001,20002,20003] [(1,(aC qu)),kZ 2,kZ 4,kZ 5,(16,(aC sj)),(17,(aC v17))] ((2,(.box 95 [(.ptr 10000 0)]))::(4,(ek o4))::(5,(.box 60 [(.row 14)]))::(14,(eF Yd))::(5080,(eF c7))::(tl1 aM aV e7 bW bN))
abbrev f468:=fun l0 gK=>rn Q5 62 [(jt l0),(aC gK)]
abbrev OV:=fun l0 gK i5=>hd Q5 62 2 [(0,(jt l0)),(1,(aC gK)),(5,(aC i5))] []
abbrev f323:=fun d0=>rn Q12 63 [(aJ d0)]
abbrev J8:=fun d0 l5 f7 t9 o8=>hd Q12 63 8 [(0,(aJ d0)),(5,(c9 l5)),(7,(dK f7)),Bp 8,(9,(aC t9))] [(8,(eL o8))]
abbrev Es:=fun d0 l5 f7 t9 i11 o8 Gg=>hd Q12 63 12 [(0,(aJ d0)),(5,(c9 l5)),(7,(dK f7)),Bp 8,(9,(aC t9)),Bp 10,(11,(aC i11))] [(8,(eL o8)),(10,(AB Gg))]
abbrev f15:=fun d0=>rn Q13 64 [(aJ d0)]
abbrev WC:=fun d0 wm i7 o6=>hd Q13 64 7 [(0,(aJ d0)),(5,(dK wm)),Bp 6,(7,(aC i7))] [(6,(AA o6))]
abbrev CF:=fun d0 wm rG f8 kH i10=>hd Q13 64 15 [(0,(aJ d0)),(5,(dK wm)),(6,(uH rG)),(8,(uH f8)),(9,(c9 kH)),(10,(aC i10))] []
abbrev Oc:=fun d0 wm rG f8 kH i10 v12 mV=>hd Q13 64 19 [(0,(aJ d0)),(5,(dK wm)),(6,(uH rG)),(8,(uH f8)),(9,(c9 kH)),(10,(aC i10)),kZ 11,(12,(aC v12))] [(11,(Pv mV))]
abbrev f28:=fun l0 i1=>rn Q15 65 [(c9 l0),(aC i1)]
abbrev GB:=fun l0 i1 k6 o5=>hd Q15 65 3 [(0,(c9 l0)),(1,(aC i1)),Bp 5,(6,(aC k6))] [(5,(eF o5))]
abbrev GC:=fun l0 i1 k6 DC m8 o5=>hd Q15 65 8 [(0,(c9 l0)),(1,(aC i1)),Bp 5,(6,(aC k6)),(7,(pb_ DC)),(8,(aC m8))] [(5,(eF o5))]
abbrev f320:=fun d0=>rn Q17 66 [(aJ d0)]
abbrev Oe:=fun d0 l5 f7 i9 o8=>hd Q17 66 8 [(0,(aJ d0)),(5,(c9 l5)),(7,(dK f7)),Bp 8,(9,(aC i9))] [(8,(nV o8))]
abbrev f351:=fun QU JX mc=>rn Q14 67 [(Cx QU),(Cx JX),(dK mc)]
abbrev Oi:=fun mc i8 o6 Jv Yd vj tB vk vm=>hd Q14 67 5 [(2,(dK mc)),kZ 6,kZ 7,(8,(aC i8))] [(6,(mb o6)),(7,(.box 90 [(Cx Jv),(.row 14),(.row 5162)])),(14,(dL Yd)),(5113,(dL vj)),(5114,(lD tB)),(5161,(dL vk)),(5162,(lD vm))]
abbrev HC:=fun mc i8 o6 Jv vj tB vk vm=>hd Q14 67 5 [(2,(dK mc)),kZ 6,kZ 7,(8,(aC i8))] [(6,(mb o6)),(7,(.box 90 [(Cx Jv),(.row 5161),(.row 5162)])),(5113,(dL vj)),(5114,(lD tB)),(5161,(dL vk)),(5162,(lD vm))]
abbrev f356:=fun h0 t1 f2=>rn Q19 68 [(gL h0),(aC t1),(aC f2)]
abbrev On:=fun f2 l8 i9=>hd Q19 68 3 [(2,(aC f2)),(8,(Jz l8)),(9,(aC i9))] []
abbrev f340:=fun h0 a1 b2=>rn Q0 69 [(gL h0),(aC a1),(aC b2)]
abbrev f432:=fun f0=>rn Q15 70 [(mC f0)]
abbrev Ko:=fun i4 o1 Gg=>hd Q15 70 3 [kZ 1,(3,(.row 10)),(4,(aC i4))] [(1,(ek o1)),(10,(eF Gg))]
abbrev OO:=fun i4 l5 k6 o1 Gg=>hd Q15 70 8 [kZ 1,(3,(.row 10)),(4,(aC i4)),(5,(jt l5)),(6,(aC k6))] [(1,(ek o1)),(10,(eF Gg))]
abbrev f466:=fun n0 gK=>rn Q5 75 [(pg_Node n0),(aC gK)]
abbrev OU:=fun gK v8 v9 v10 o2=>hd Q5 75 2 [(1,(aC gK)),(8,(jt v8)),(9,(aC v9)),(10,(aC v10))] [(2,(qM o2))]
abbrev f63:=fun a0 b1=>rn Q0 78 [(gX a0),(gX b1)]
abbrev WK:=fun b1 v7 v8 v9=>hd Q0 78 2 [(1,(gX b1)),(7,(gX v7)),(8,(aC v8)),(9,(aC v9))] []
abbrev f454:=fun l0 n1=>rn Q5 79 [(jt l0),(aC n1)]
abbrev Kr:=fun l0 n1 i5=>hd Q5 79 2 [(0,(jt l0)),(1,(aC n1)),(5,(aC i5))] []
abbrev Ks:=fun l0 n1 i5 k6=>hd Q5 79 7 [(0,(jt l0)),(1,(aC n1)),(5,(aC i5)),(6,(aC k6))] []
abbrev E455r (aZ:List Node):=eD Q18 (dT 10000 (.box 133 [(jS aZ),(.row 20001),(.row 20002)]) (dI 20001 (iR 3 1 (bX .i64)) (dJ 20002 (iR 3 1 (bX .i64)) dZ)))
abbrev f455:=fun n1 aZ iw fP=>dec (E455r aZ) (Rn 80 [(.ptr 10000 0),(aC n1)] [(10000,(.box 133 [(jS aZ),(.row 20001),(.row 20002)])),(20001,(eF iw)),(20002,(eF fP))])
abbrev Kt:=fun l4 i5 aM e7 bW=>hx (E455r aM) 80 4 [10000,20001,20002] [(0,(.ptr 10000 0)),(4,(jt l4)),(5,(aC i5))] [(10000,(.box 133 [(jS aM),(.row 20001),(.row 20002)])),(20001,(eF e7)),(20002,(eF bW))]
abbrev f463:=fun l0=>rn Q28 81 [(jt l0)]
abbrev y5:=fun l0 i4 o3=>hd Q28 81 3 [(0,(jt l0)),Bp 3,(4,(aC i4))] [(3,(mh o3))]
abbrev HK:=fun l0 i4 v5 o3=>hd Q28 81 6 [(0,(jt l0)),Bp 3,(4,(aC i4)),(5,(aC v5))] [(3,(mh o3))]
abbrev f459:=fun i0=>rn Q20 83 [(aC i0)]
abbrev f319:=fun d0=>rn Q17 84 [(aJ d0)]
abbrev Od:=fun (t4:Option table) v20 v21 v22 o6=>hd Q17 84 6 [(4,(.pv (Tc table.enc t4))),Bp 6,(20,(dK v20)),(21,(aC v21)),(22,(aC v22))] [(6,(nV o6))]
abbrev f322:=fun d0=>rn Q12 85 [(aJ d0)]
abbrev f14:=fun d0=>rn Q13 86 [(aJ d0)]
abbrev f27:=fun l0 i1=>rn Q15 87 [(c9 l0),(aC i1)]
abbrev E486r (cK:List iy) (cH:List dH):=eD Q0 (dT 10000 (.box 95 [(.ptr 10002 0)]) (dT 10001 (.box 138 [(.row 20003)]) (dT 10002 (.box 98 [(mN cK),(kF cH),(.row 20004),(.row 20005),(.row 20006)]) (dI 20003 (iR 137 2 fo.enc) (dI 20004 (iR 3 1 (bX .i64)) (dI 20005 (iR 3 1 (bX .i64)) (dJ 20006 (iR 50 1 (iB 2 cF.enc)) dZ)))))))
abbrev f486:=fun a0 b1 cK cH gq lz kU nK=>dec (E486r cK cH) (Rn 88 [(aC a0),(aC b1),(.ptr 10000 0),(.ptr 10001 0)] (tl6 cK cH gq lz kU nK))
abbrev nH:=fun a0 x9 y10 mV eV eW bN cU jR iU=>hx (E486r eV eW) 88 8 [10000,10001,10002,20003,20004,20005,20006] [(0,(aC a0)),(2,(.ptr 10000 0)),(3,(.ptr 10001 0)),(9,(jt x9)),(10,(jt y10)),Bp 11] ((11,(mh mV))::(tl6 eV eW bN cU jR iU))
abbrev f335:=fun h0 a1 b2=>rn Q19 89 [(gL h0),(aC a1),(aC b2)]
abbrev E485r (aZ:List iy) (bR:List dH):=eD Q5 (dT 10000 (.box 98 [(mN aZ),(kF bR),(.row 20001),(.row 20002),(.row 20003)]) (dI 20001 (iR 3 1 (bX .i64)) (dI 20002 (iR 3 1 (bX .i64)) (dJ 20003 (iR 50 1 (iB 2 cF.enc)) dZ))))
abbrev f485:=fun n1 aZ bR iw fP gq=>dec (E485r aZ bR) (Rn 90 [(.ptr 10000 0),(aC n1)] (tl1 aZ bR iw fP gq))
abbrev Ku:=fun n1 aM aV e7 bW bN=>hx (E485r aM aV) 90 1 [10000,20001,20002,20003] [(0,(.ptr 10000 0)),(1,(aC n1))] (tl1 aM aV e7 bW bN)
abbrev E487r (tJ:List iy) (tK:List dH):=eD Q5 (dT 10000 (.box 95 [(.ptr 10004 0)]) (dT 10001 (.box 60 [(.row 20005)]) (dT 10002 (.box 24 [(.row 20006)]) (dT 10003 (.box 139 [(.cl 91 [.p 10000, .p 10001, .p 10002, .p 10003])]) (dT 10004 (.box 98 [(mN tJ),(kF tK),(.row 20007),(.row 20008),(.row 20009)]) (dI 20005 (iR 3 1 (bX .i64)) (dI 20006 (iR 52 2 Node.enc) (dI 20007 (iR 3 1 (bX .i64)) (dI 20008 (iR 3 1 (bX .i64)) (dJ 20009 (iR 50 1 (iB 2 cF.enc)) dZ))))))))))
abbrev f487:=fun n0 tJ tK kU nK O2 O3 O4=>dec (E487r tJ tK) (Rn 91 [(aC n0),(.ptr 10000 0),(.ptr 10001 0),(.ptr 10002 0),(.ptr 10003 0)] (tl5 tJ tK kU nK O2 O3 O4))
abbrev OY:=fun v7 v49 v50 v51 o8 xd xg jR iU Jr Js Jt=>hx (E487r xd xg) 91 9 [10000,10001,10002,10003,10004,20005,20006,20007,20008,20009] [(3,(.ptr 10002 0)),(4,(.ptr 10003 0)),(7,(aC v7)),Bp 8,(49,(jt v49)),(50,(aC v50)),(51,(aC v51))] ((8,(mh o8))::(tl5 xd xg jR iU Jr Js Jt))
abbrev f318:=fun d0=>rn Q5 92 [(aJ d0)]
abbrev HA:=fun d0 l3 f5 i7=>hd Q5 92 11 [(0,(aJ d0)),(3,(c9 l3)),(5,(dK f5)),(7,(aC i7))] []
abbrev Ep:=fun d0 l3 f5 t10=>hd Q5 92 17 [(0,(aJ d0)),(3,(c9 l3)),(5,(dK f5)),(10,(aC t10))] []
abbrev Er:=fun d0 l3 f5 t10 i11=>hd Q5 92 20 [(0,(aJ d0)),(3,(c9 l3)),(5,(dK f5)),(10,(aC t10)),(11,(aC i11))] []
abbrev f345:=fun d0=>rn Q16 93 [(aJ d0)]
abbrev Ka:=fun d0 Am i4=>hd Q16 93 3 [(0,(aJ d0)),(3,(dK Am)),(4,(aC i4))] []
abbrev Oh:=fun d0 Am i4 k5=>hd Q16 93 6 [(0,(aJ d0)),(3,(dK Am)),(4,(aC i4)),(5,(aC k5))] []
abbrev f370:=fun d0 l1 t2 qQ=>rn Q26 94 [(aJ d0),(c9 l1),(aC t2),(Cx qQ)]
abbrev Fv:=fun d0 l1 t2 qQ XX B7 i12=>hd Q26 94 4 [(0,(aJ d0)),(1,(c9 l1)),(2,(aC t2)),(3,(Cx qQ)),(10,(pb_ XX)),(11,(gX B7)),(12,(aC i12))] []
abbrev f19:=fun l0 b1=>rn Q5 95 [(c9 l0),(gX b1)]
abbrev WD:=fun l0 n5 i6=>hd Q5 95 3 [(0,(c9 l0)),(5,(gX n5)),(6,(aC i6))] []
abbrev f32:=fun d0=>rn Q5 96 [(aJ d0)]
abbrev J9:=fun d0 n6 i7=>hd Q5 96 12 [(0,(aJ d0)),(6,(aC n6)),(7,(aC i7))] []
abbrev f52:=fun d0=>rn Q16 97 [(aJ d0)]
abbrev WG:=fun d0 Am i4=>hd Q16 97 3 [(0,(aJ d0)),(3,(dK Am)),(4,(aC i4))] []
abbrev f53:=fun d0 s8 V5=>rn Q21 98 [(aJ d0),(dK s8),(Cx V5)]
abbrev RT:=fun s8 X2 i9 o8=>hd Q21 98 4 [(1,(dK s8)),(7,(dK X2)),Bp 8,(9,(aC i9))] [(8,(eF o8))]
abbrev f54:=fun B8=>rn Q22 99 [(uH B8)]
abbrev L0:=fun i4 o7=>hd Q22 99 3 [(3,(.row 7)),(4,(aC i4))] [(7,(AA o7))]
abbrev L2:=fun i4 k5 o7=>hd Q22 99 6 [(3,(.row 7)),(4,(aC i4)),(5,(aC k5))] [(7,(AA o7))]
abbrev f55:=fun d0 s8 sB b3=>rn Q20 100 [(aJ d0),(dK s8),(uH sB),(gX b3)]
abbrev RU:=fun d0 s8 sB b3 i10 o9=>hd Q20 100 3 [(0,(aJ d0)),(1,(dK s8)),(2,(uH sB)),(3,(gX b3)),Bp 9,(10,(aC i10))] [(9,(dL o9))]
abbrev Fy:=fun l9 s11 i12=>hd Q20 100 12 [(9,(dK l9)),(11,(Cx s11)),(12,(aC i12))] []
abbrev f56:=fun a0 b1=>rn Q0 101 [(Rl a0),(Rl b1)]
abbrev f25:=fun l0 i1 j2=>rn Q0 102 [(c9 l0),(aC i1),(aC j2)]
abbrev f357:=fun d0 gK=>rn Q25 103 [(aJ d0),(Cx gK)]
abbrev Ke:=fun d0 gK FC i7=>hd Q25 103 3 [(0,(aJ d0)),(1,(Cx gK)),(6,(dK FC)),(7,(aC i7))] []
abbrev f358:=fun l0 jP=>rn Q5 104 [(c9 l0),(Cx jP)]
abbrev Oo:=fun l0 jP i5=>hd Q5 104 2 [(0,(c9 l0)),(1,(Cx jP)),(5,(aC i5))] []
abbrev f65:=fun a0 b1=>rn Q0 105 [(gX a0),(gX b1)]
abbrev f107:=fun b0 i1=>rn Q34 118 [(gX b0),(aC i1)]
abbrev f344:=fun d0=>rn Q29 120 [(aJ d0)]
abbrev UH:=fun IE v24 v25 v26 o21 Gh Gi Wg Wh Rf Rg Rh=>hd Q29 120 6 [(4,(c9 IE)),(6,(.ptr 23 0)),(24,(aJ v24)),(25,(aC v25)),(26,(aC v26))] [(21,(iP o21)),(23,(.box 171 [(aJ Gh),(c9 Gi),(.row 21),(.row 5355),(.row 5356),(.row 5357)])),(5352,(GZ Wg)),(5353,(K8 Wh)),(5355,(dL Rf)),(5356,(eF Rg)),(5357,(eL Rh))]
abbrev f31:=fun a0 b1=>rn Q0 126 [(gX a0),(gX b1)]
abbrev f24:=fun l0 i1 j2=>rn Q0 136 [(c9 l0),(aC i1),(aC j2)]
abbrev E67r (iG:Int) (cK:List aq) (cH:List dR) (dO:List ((List UInt8)×Int)) (dM:List (List UInt8)) (fK:List Int) (fL:List (List dg)):=eZ Q0 (dS 10000 (.box 166 [(.ptr 10002 0)]) (dS 10001 (.box 3 [(aC iG)]) (dS 10002 (.box 171 [(aJ cK),(c9 cH),(.row 10003),(.row 10004),(.row 10005),(.row 10006)]) (dS 10003 (iP dO) (dS 10004 (dL dM) (dS 10005 (eF fK) (dS 10006 (eL fL) dZ)))))))
abbrev f67a:=fun s0 iG cK cH dO dM fK fL=>dec (E67r iG cK cH dO dM fK fL) (Rn 138 [(iE s0),(.cl 226 [.p 10000, .p 10001])] ((10000,(.box 166 [(.ptr 10002 0)]))::(10001,(.box 3 [(aC iG)]))::(tl2 cK cH dO dM fK fL)))
abbrev f29:=fun a0 b1=>rn Q21 139 [(gX a0),(gX b1)]
abbrev RR:=fun a0 b1 BW ql sR=>hd Q21 139 3 [(0,(gX a0)),(1,(gX b1)),(5,(.row 12)),(14,(aC BW)),(15,(aC ql))] [(12,(xz sR))]
abbrev f353:=fun s0 (r8:List Int)=>rn Q5 140 [(mN s0),(.pv (.fn 141 [(.ref [(.eH 1 (List.map (bX .u64) r8))])]))]
abbrev Oj:=fun s0 (r8:List Int) v7 v8=>hd Q5 140 2 [(0,(mN s0)),(1,(.pv (.fn 141 [(.ref [(.eH 1 (List.map (bX .u64) r8))])]))),(7,(aC v7)),(8,(aC v8))] []
abbrev f371:=fun t0 (a1:List Int)=>rn Q0 141 [(acp t0),(.pv (.ref [(.eH 1 (List.map (bX .u64) a1))]))]
abbrev f346:=fun d0=>rn Q5 142 [(aJ d0)]
abbrev Kb:=fun d0 zQ i4=>hd Q5 142 3 [(0,(aJ d0)),(3,(dK zQ)),(4,(aC i4))] []
abbrev Kc:=fun d0 zQ i4 l5 k6=>hd Q5 142 7 [(0,(aJ d0)),(3,(dK zQ)),(4,(aC i4)),(5,(jj l5)),(6,(aC k6))] []
abbrev HB:=fun d0 zQ i4 l5 k6 m7=>hd Q5 142 12 [(0,(aJ d0)),(3,(dK zQ)),(4,(aC i4)),(5,(jj l5)),(6,(aC k6)),(7,(aC m7))] []
abbrev f98:=fun l0 s1=>rn Q16 143 [(dK l0),(Cx s1)]
abbrev WQ:=fun l0 s1 v6 o5=>hd Q16 143 3 [(0,(dK l0)),(1,(Cx s1)),Bp 5,(6,(aC v6))] [(5,(dL o5))]
abbrev f373:=fun x0 gK=>rn Q25 144 [(Gk x0),(Cx gK)]
abbrev Ov:=fun gK i6 o2=>hd Q25 144 2 [(1,(Cx gK)),kZ 2,(6,(aC i6))] [(2,(mb o2))]
abbrev f61:=fun a0 b1=>rn Q21 145 [(gX a0),(gX b1)]
abbrev WJ:=fun a0 b1 i6 o5=>hd Q21 145 3 [(0,(gX a0)),(1,(gX b1)),Bp 5,(6,(aC i6))] [(5,(xz o5))]
abbrev f60:=fun b0=>rn Q21 146 [(gX b0)]
abbrev WI:=fun b0 n3=>hd Q21 146 2 [(0,(gX b0)),(3,(aC n3))] []
abbrev f57:=fun a0 b1=>rn Q0 147 [(gX a0),(gX b1)]
abbrev WH:=fun a0 b1 i5=>hd Q0 147 4 [(0,(gX a0)),(1,(gX b1)),(5,(aC i5))] []
abbrev f70:=fun d0=>rn Q5 148 [(aJ d0)]
abbrev WM:=fun d0 i3=>hd Q5 148 4 [(0,(aJ d0)),(3,(aC i3))] []
abbrev f71:=fun d0=>rn Q5 149 [(aJ d0)]
abbrev WN:=fun d0 i3=>hd Q5 149 2 [(0,(aJ d0)),(3,(aC i3))] []
abbrev f72:=fun d0=>rn Q5 150 [(aJ d0)]
abbrev RV:=fun d0 i3=>hd Q5 150 2 [(0,(aJ d0)),(3,(aC i3))] []
abbrev WO:=fun d0 i3 l4 k5=>hd Q5 150 6 [(0,(aJ d0)),(3,(aC i3)),(4,(dK l4)),(5,(aC k5))] []
abbrev f73:=fun d0=>rn Q16 151 [(aJ d0)]
abbrev Kv:=fun d0 vT o3=>hd Q16 151 3 [(0,(aJ d0)),Bp 3,(4,(pb_ vT))] [(3,(dL o3))]
abbrev Ew:=fun d0 vT BK i6 o3=>hd Q16 151 7 [(0,(aJ d0)),Bp 3,(4,(pb_ vT)),(5,(Cx BK)),(6,(aC i6))] [(3,(dL o3))]
abbrev f99:=fun d0 jP=>rn Q16 152 [(aJ d0),(Cx jP)]
abbrev RW:=fun d0 i6 j0=>hd Q16 152 5 [(0,(aJ d0)),(5,(.row 15)),(6,(aC i6))] [(15,(dL j0))]
abbrev L3:=fun d0 i6 k7 j0=>hd Q16 152 8 [(0,(aJ d0)),(5,(.row 15)),(6,(aC i6)),(7,(aC k7))] [(15,(dL j0))]
abbrev FA:=fun acm i9 j0=>hd Q16 152 14 [(5,(.row 15)),(8,(dK acm)),(9,(aC i9))] [(15,(dL j0))]
abbrev f37:=fun l0 s1=>rn Q0 153 [(dK l0),(Cx s1)]
abbrev WE:=fun l0 s1 i5=>hd Q0 153 2 [(0,(dK l0)),(1,(Cx s1)),(5,(aC i5))] []
abbrev f100:=fun l0=>rn Q32 154 [(iE l0)]
abbrev N4:=fun l0 i5 o6=>hd Q32 154 3 [(0,(iE l0)),(4,(.row 6)),(5,(aC i5))] [(6,(xz o6))]
abbrev f101:=fun l0 b1=>rn Q0 155 [(uH l0),(gX b1)]
abbrev N5:=fun l0 b1 i5=>hd Q0 155 2 [(0,(uH l0)),(1,(gX b1)),(5,(aC i5))] []
abbrev f102:=fun a0 b1=>rn Q0 156 [(gX a0),(gX b1)]
abbrev f103:=fun b0 i1=>rn Q0 157 [(gX b0),(aC i1)]
abbrev f104:=fun d0 l1=>rn Q16 158 [(aJ d0),(dK l1)]
abbrev Ft:=fun d0 zy i7 o5=>hd Q16 158 4 [(0,(aJ d0)),Bp 5,(6,(dK zy)),(7,(aC i7))] [(5,(dL o5))]
abbrev Fu:=fun d0 zy i7 up8 Qd k10 o5=>hd Q16 158 9 [(0,(aJ d0)),Bp 5,(6,(dK zy)),(7,(aC i7)),(8,(dK up8)),(9,(pb_ Qd)),(10,(aC k10))] [(5,(dL o5))]
abbrev f105:=fun b0=>rn Q5 159 [(gX b0)]
abbrev f108:=fun a0 b1=>rn Q21 160 [(gX a0),(gX b1)]
abbrev N6:=fun a0 b1 i6 o5=>hd Q21 160 3 [(0,(gX a0)),(1,(gX b1)),Bp 5,(6,(aC i6))] [(5,(xz o5))]
abbrev f336:=fun h0 a1 b2=>rn Q19 162 [(gL h0),(aC a1),(aC b2)]
abbrev f366:=fun s0 (r8:aq)=>rn Q5 171 [(c9 s0),(.pv (.fn 172 [(.ref (aq.enc r8))]))]
abbrev zB (aZ:List aq) (bR:List dR):=eD Q5 (dT 10000 (.box 171 [(aJ aZ),(c9 bR),(.row 10001),(.row 20002),(.row 20003),(.row 20004)]) (dI 10001 (iM 9 3 V9 V3) (dI 20002 (iR 9 1 jG) (dI 20003 (iR 3 1 (bX .i64)) (dJ 20004 (iR 114 1 (iB 2 dg.enc)) dZ)))))
abbrev f367:=fun aZ bR gY fP gq lz=>dec (zB aZ bR) (Rn 173 [(.ptr 10000 0)] (tl0 aZ bR gY fP gq lz))
abbrev Oq:=fun Kz v20 v21 j0 aM aV cM bW bN cU=>hx (zB aM aV) 173 3 [10000,10001,20002,20003,20004] [(0,(.ptr 10000 0)),(3,(.row 15)),(19,(aJ Kz)),(20,(aC v20)),(21,(aC v21))] ((15,(vU j0))::(tl0 aM aV cM bW bN cU))
abbrev Ot:=fun Kz v20 v21 v26 v27 v28 o5 j0 aM aV cM bW bN cU=>hx (zB aM aV) 173 6 [10000,10001,20002,20003,20004] [(0,(.ptr 10000 0)),(3,(.row 15)),(19,(aJ Kz)),(20,(aC v20)),(21,(aC v21)),(26,(jj v26)),(27,(aC v27)),(28,(aC v28))] ((5,(mb o5))::(15,(vU j0))::(tl0 aM aV cM bW bN cU))
abbrev HE:=fun GD v44 v45 j0 aM aV cM bW bN cU=>hx (zB aM aV) 173 14 [10000,10001,20002,20003,20004] [(0,(.ptr 10000 0)),(3,(.row 15)),(43,(aJ GD)),(44,(aC v44)),(45,(aC v45))] ((15,(vU j0))::(tl0 aM aV cM bW bN cU))
abbrev HF:=fun GD v44 v45 v50 v51 v52 o9 j0 aM aV cM bW bN cU=>hx (zB aM aV) 173 17 [10000,10001,20002,20003,20004] [(0,(.ptr 10000 0)),(3,(.row 15)),kZ 9,(43,(aJ GD)),(44,(aC v44)),(45,(aC v45)),(50,(jj v50)),(51,(aC v51)),(52,(aC v52))] ((9,(mb o9))::(15,(vU j0))::(tl0 aM aV cM bW bN cU))
abbrev f368:=fun aZ bR gY fP gq lz=>dec (zB aZ bR) (Rn 174 [(.ptr 10000 0)] (tl0 aZ bR gY fP gq lz))
abbrev Ou:=fun v11 v12 aM aV cM bW bN cU=>hx (zB aM aV) 174 2 [10000,10001,20002,20003,20004] [kZ 1,(10,(.row 20002)),(11,(aC v11)),(12,(aC v12))] ((1,(.box 166 [(.ptr 10000 0)]))::(tl0 aM aV cM bW bN cU))
abbrev f369:=fun aZ bR gY fP gq lz=>dec (zB aZ bR) (Rn 175 [(.ptr 10000 0)] (tl0 aZ bR gY fP gq lz))
abbrev UI:=fun ql sj aM aV cM bW bN cU=>hx (zB aM aV) 175 2 [10000,10001,20002,20003,20004] [(0,(.ptr 10000 0)),(15,(aC ql)),(16,(aC sj))] (tl0 aM aV cM bW bN cU)
abbrev Kf:=fun (B9:List ((List UInt8)×(List Int))) ql sj v26 v27 o4 aM aV cM bW bN cU=>hx (zB aM aV) 175 7 [10000,10001,20002,20003,20004] [(0,(.ptr 10000 0)),Bp 4,(5,(.pv (.mp (dY V9 Pj B9).1 (dY V9 Pj B9).2))),(15,(aC ql)),(16,(aC sj)),(25,(.row 20002)),(26,(aC v26)),(27,(aC v27))] ((4,(AB o4))::(tl0 aM aV cM bW bN cU))
abbrev E109r (aZ:List Int) (cK:List aq) (cH:List dR) (dO:List ((List UInt8)×Int)) (dM:List (List UInt8)) (fK:List Int) (fL:List (List dg)):=eZ Q5 (dS 10000 (.box 60 [(iE aZ)]) (dS 10001 (.box 166 [(.ptr 10002 0)]) (dS 10002 (.box 171 [(aJ cK),(c9 cH),(.row 10003),(.row 10004),(.row 10005),(.row 10006)]) (dS 10003 (iP dO) (dS 10004 (dL dM) (dS 10005 (eF fK) (dS 10006 (eL fL) dZ)))))))
abbrev Pf (iG:Int) (cK:List aq) (cH:List dR) (dO:List ((List UInt8)×Int)) (dM:List (List UInt8)) (fK:List Int) (fL:List (List dg)):=eZ Q5 (dS 10000 (.box 166 [(.ptr 10002 0)]) (dS 10001 (.box 3 [(aC iG)]) (dS 10002 (.box 171 [(aJ cK),(c9 cH),(.row 10003),(.row 10004),(.row 10005),(.row 10006)]) (dS 10003 (iP dO) (dS 10004 (dL dM) (dS 10005 (eF fK) (dS 10006 (eL fL) dZ)))))))
abbrev ZT:=fun s0 aZ cK cH dO dM fK fL=>dec (E109r aZ cK cH dO dM fK fL) (Rn 201 [(iE s0),(.cl 225 [.p 10000, .p 10001])] ((10000,(.box 60 [(iE aZ)]))::(10001,(.box 166 [(.ptr 10002 0)]))::(tl2 cK cH dO dM fK fL)))
abbrev ZU:=fun s0 iG cK cH dO dM fK fL=>dec (Pf iG cK cH dO dM fK fL) (Rn 201 [(iE s0),(.cl 226 [.p 10000, .p 10001])] ((10000,(.box 166 [(.ptr 10002 0)]))::(10001,(.box 3 [(aC iG)]))::(tl2 cK cH dO dM fK fL)))
abbrev N7:=fun s0 v7 v8 aM eV eW gH gI sE sG=>hx (E109r aM eV eW gH gI sE sG) 201 2 [10000,10001,10002,10003,10004,10005,10006] [(0,(iE s0)),(1,(.cl 225 [.p 10000, .p 10001])),(7,(aC v7)),(8,(aC v8))] ((10000,(.box 60 [(iE aM)]))::(10001,(.box 166 [(.ptr 10002 0)]))::(tl2 eV eW gH gI sE sG))
abbrev N8:=fun s0 v7 v8 xb eV eW gH gI sE sG=>hx (Pf xb eV eW gH gI sE sG) 201 2 [10000,10001,10002,10003,10004,10005,10006] [(0,(iE s0)),(1,(.cl 226 [.p 10000, .p 10001])),(7,(aC v7)),(8,(aC v8))] ((10000,(.box 166 [(.ptr 10002 0)]))::(10001,(.box 3 [(aC xb)]))::(tl2 eV eW gH gI sE sG))
abbrev f68:=fun b0=>rn Q21 202 [(gX b0)]
abbrev WL:=fun b0 n3=>hd Q21 202 2 [(0,(gX b0)),(3,(aC n3))] []
abbrev f372:=fun s0=>rn Q0 203 [(Cx s0)]
abbrev f106:=fun b0 i1=>rn Q34 204 [(gX b0),(aC i1)]
abbrev f110:=fun s0=>rn Q0 205 [(Cx s0)]
abbrev f111:=fun d0 jP=>rn Q5 206 [(aJ d0),(Cx jP)]
abbrev N9:=fun d0 jP i5=>hd Q5 206 2 [(0,(aJ d0)),(1,(Cx jP)),(5,(aC i5))] []
abbrev f112:=fun x0 Bz=>rn Q0 207 [(Gk x0),(dK Bz)]
abbrev Oa:=fun Bz i5 o2=>hd Q0 207 2 [(1,(dK Bz)),kZ 2,(5,(aC i5))] [(2,(mb o2))]
abbrev f137:=fun d0 l1=>rn Q16 208 [(aJ d0),(dK l1)]
abbrev JZ:=fun d0 l1 Yh i6=>hd Q16 208 3 [(0,(aJ d0)),(1,(dK l1)),(5,(dK Yh)),(6,(aC i6))] []
abbrev f138:=fun d0 jP=>rn Q16 209 [(aJ d0),(Cx jP)]
abbrev J4:=fun d0 i6 pV=>hd Q16 209 5 [(0,(aJ d0)),(5,(.row 16)),(6,(aC i6))] [(16,(dL pV))]
abbrev J5:=fun d0 i6 l7 k8 pV=>hd Q16 209 9 [(0,(aJ d0)),(5,(.row 16)),(6,(aC i6)),(7,(dK l7)),(8,(aC k8))] [(16,(dL pV))]
abbrev Bk:=fun kH i10 pV=>hd Q16 209 15 [(5,(.row 16)),(9,(dK kH)),(10,(aC i10))] [(16,(dL pV))]
abbrev f139:=fun b0=>rn Q15 210 [(gX b0)]
abbrev J6:=fun b0 i4 o3=>hd Q15 210 3 [(0,(gX b0)),Bp 3,(4,(aC i4))] [(3,(eF o3))]
abbrev f354:=fun h0 b1=>rn Q19 211 [(gL h0),(gX b1)]
abbrev Ol:=fun b1 i6 o2=>hd Q19 211 2 [(1,(gX b1)),kZ 2,(6,(aC i6))] [(2,(fI o2))]
abbrev f380:=fun s0=>rn Q0 221 [(Cx s0)]
abbrev E381r (iV:bQ):=eZ Q0 (dS 10000 (nX iV) dZ)
abbrev f381:=fun s0 iV=>dec (E381r iV) (Rn 222 [(jj s0),(.cl 223 [.p 10000])] [(10000,(nX iV))])
abbrev ZV:=fun s0 (r8:List UInt8)=>rn Q0 222 [(jj s0),(.pv (.fn 263 [(.ref [(.str r8)])]))]
abbrev f388:=fun y0 iV=>dec (E381r iV) (Rn 223 [(An y0),(.ptr 10000 0)] [(10000,(nX iV))])
abbrev E376r (aZ:List aq) (bR:List dR) (gY:List ((List UInt8)×Int)) (mR:List (List UInt8)) (dO:List Int) (dM:List (List dg)):=eZ Q15 (dS 10000 (.box 171 [(aJ aZ),(c9 bR),(.row 10001),(.row 10002),(.row 10003),(.row 10004)]) (dS 10001 (iP gY) (dS 10002 (dL mR) (dS 10003 (eF dO) (dS 10004 (eL dM) dZ)))))
abbrev f376:=fun gK aZ bR gY mR dO dM=>dec (E376r aZ bR gY mR dO dM) (Rn 224 [(.ptr 10000 0),(Cx gK)] (tl3 aZ bR gY mR dO dM))
abbrev Kg:=fun (qQ:List UInt8) v11 v12 xE o5 aM aV cM kO gH gI=>hx (E376r aM aV cM kO gH gI) 224 3 [10000,10001,10002,10003,10004] [(0,(.ptr 10000 0)),(3,(.cp [(.str qQ)])),Bp 5,(11,(aJ v11)),(12,(aC v12)),(13,(aC xE))] ((5,(eF o5))::(tl3 aM aV cM kO gH gI))
abbrev E382r (aZ:List Int) (cK:List aq) (cH:List dR) (dO:List ((List UInt8)×Int)) (dM:List (List UInt8)) (fK:List Int) (fL:List (List dg)):=eZ Q0 (dS 10000 (.box 60 [(iE aZ)]) (dS 10001 (.box 166 [(.ptr 10002 0)]) (dS 10002 (.box 171 [(aJ cK),(c9 cH),(.row 10003),(.row 10004),(.row 10005),(.row 10006)]) (dS 10003 (iP dO) (dS 10004 (dL dM) (dS 10005 (eF fK) (dS 10006 (eL fL) dZ)))))))
abbrev f382:=fun a0 aZ cK cH dO dM fK fL=>dec (E382r aZ cK cH dO dM fK fL) (Rn 225 [(aC a0),(.ptr 10000 0),(.ptr 10001 0)] ((10000,(.box 60 [(iE aZ)]))::(10001,(.box 166 [(.ptr 10002 0)]))::(tl2 cK cH dO dM fK fL)))
abbrev f390:=fun b0 iG cK cH dO dM fK fL=>dec (E67r iG cK cH dO dM fK fL) (Rn 226 [(aC b0),(.ptr 10000 0),(.ptr 10001 0)] ((10000,(.box 166 [(.ptr 10002 0)]))::(10001,(.box 3 [(aC iG)]))::(tl2 cK cH dO dM fK fL)))
abbrev YW (aZ:List aq) (bR:List dR) (gY:List ((List UInt8)×Int)) (mR:List (List UInt8)) (dO:List Int) (dM:List (List dg)):=eZ Q36 (dS 10000 (.box 171 [(aJ aZ),(c9 bR),(.row 10001),(.row 10002),(.row 10003),(.row 10004)]) (dS 10001 (iP gY) (dS 10002 (dL mR) (dS 10003 (eF dO) (dS 10004 (eL dM) dZ)))))
abbrev f377:=fun i1 aZ bR gY mR dO dM=>dec (YW aZ bR gY mR dO dM) (Rn 227 [(.ptr 10000 0),(aC i1)] (tl3 aZ bR gY mR dO dM))
abbrev Ow:=fun i1 sj v17 L5 mV aM aV cM kO gH gI=>hx (YW aM aV cM kO gH gI) 227 4 [10000,10001,10002,10003,10004] [(1,(aC i1)),kZ 2,kZ 5,(6,(.cl 264 [.p 2, .p 5])),(16,(aJ sj)),(17,(aC v17)),(18,(aC L5))] ((2,(.box 166 [(.ptr 10000 0)]))::(5,(.box 256 [(.row 11)]))::(11,(tU mV))::(tl3 aM aV cM kO gH gI))
abbrev Ox:=fun i1 sj v17 L5 v36 v37 v38 o8 mV aM aV cM kO gH gI=>hx (YW aM aV cM kO gH gI) 227 8 [10000,10001,10002,10003,10004] [(1,(aC i1)),kZ 2,kZ 5,(6,(.cl 264 [.p 2, .p 5])),(16,(aJ sj)),(17,(aC v17)),(18,(aC L5)),(36,(jj v36)),(37,(aC v37)),(38,(aC v38))] ((2,(.box 166 [(.ptr 10000 0)]))::(5,(.box 256 [(.row 11)]))::(8,(mb o8))::(11,(tU mV))::(tl3 aM aV cM kO gH gI))
abbrev f18:=fun l0 code1=>rn Q5 228 [(c9 l0),(gX code1)]
abbrev f140:=fun s0 zV=>rn Q0 253 [(Cx s0),(pb_ zV)]
abbrev J7:=fun s0 zV i5=>hd Q0 253 4 [(0,(Cx s0)),(1,(pb_ zV)),(5,(aC i5))] []
abbrev E384r (iV:bQ):=eZ Q5 (dS 10000 (nX iV) dZ)
abbrev f384:=fun s0 iV=>dec (E384r iV) (Rn 262 [(jj s0),(.cl 223 [.p 10000])] [(10000,(nX iV))])
abbrev ZW:=fun s0 (r8:List UInt8)=>rn Q5 262 [(jj s0),(.pv (.fn 263 [(.ref [(.str r8)])]))]
abbrev Oy:=fun s0 v7 v8 me=>hx (E384r me) 262 2 [10000] [(0,(jj s0)),(1,(.cl 223 [.p 10000])),(7,(aC v7)),(8,(aC v8))] [(10000,(nX me))]
abbrev HG:=fun s0 (r8:List UInt8) v7 v8=>hd Q5 262 2 [(0,(jj s0)),(1,(.pv (.fn 263 [(.ref [(.str r8)])]))),(7,(aC v7)),(8,(aC v8))] []
abbrev f389:=fun f0 (a1:List UInt8)=>rn Q0 263 [(An f0),(.pv (.ref [(.str a1)]))]
abbrev E385r (cK:List aq) (cH:List dR) (dM:List ((List UInt8)×Int)) (fK:List (List UInt8)) (fL:List Int) (CI:List (List dg)):=eD Q18 (dT 10000 (.box 166 [(.ptr 10002 0)]) (dT 10001 (.box 256 [(.row 10003)]) (dT 10002 (.box 171 [(aJ cK),(c9 cH),(.row 10004),(.row 10005),(.row 10006),(.row 10007)]) (dJ 10003 (iM 9 110 V9 Pj) (dS 10004 (iP dM) (dS 10005 (dL fK) (dS 10006 (eF fL) (dS 10007 (eL CI) dZ))))))))
abbrev f385:=fun f0 cK cH dO dM fK fL CI=>dec (E385r cK cH dM fK fL CI) (Rn 264 [(An f0),(.ptr 10000 0),(.ptr 10001 0)] [(10000,(.box 166 [(.ptr 10002 0)])),(10001,(.box 256 [(.row 10003)])),(10002,(.box 171 [(aJ cK),(c9 cH),(.row 10004),(.row 10005),(.row 10006),(.row 10007)])),(10003,(tU dO)),(10004,(iP dM)),(10005,(dL fK)),(10006,(eF fL)),(10007,(eL CI))])
abbrev E383r (aZ:List aq) (bR:List dR) (gY:List ((List UInt8)×Int)) (mR:List (List UInt8)) (dO:List Int) (dM:List (List dg)):=eZ Q21 (dS 10000 (.box 171 [(aJ aZ),(c9 bR),(.row 10001),(.row 10002),(.row 10003),(.row 10004)]) (dS 10001 (iP gY) (dS 10002 (dL mR) (dS 10003 (eF dO) (dS 10004 (eL dM) dZ)))))
abbrev f383:=fun jP aZ bR gY mR dO dM=>dec (E383r aZ bR gY mR dO dM) (Rn 265 [(.ptr 10000 0),(Cx jP)] (tl3 aZ bR gY mR dO dM))
abbrev f159:=fun c0=>rn Q0 285 [(Wm c0)]
abbrev f160:=fun c0 zV=>rn Q0 286 [(Wm c0),(pb_ zV)]
abbrev f166:=fun c0=>rn Q0 301 [(Wm c0)]
abbrev f167:=fun c0=>rn Q0 302 [(Wm c0)]
end
end Go.Proofs.YthppjmoncapdfaaGreatDoor.cl
