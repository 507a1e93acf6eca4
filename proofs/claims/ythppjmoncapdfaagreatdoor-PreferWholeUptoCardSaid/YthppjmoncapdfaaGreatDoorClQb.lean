/- The laws that compile declarations. -/
import Derived.Test.YthppjmoncapdfaaGreatDoorClXv
import Derived.Test.YthppjmoncapdfaaGreatDoorClEi
import Derived.Test.YthppjmoncapdfaaGreatDoorClXb
import Derived.Shelf.Strings.OnBuilder
import Derived.Shelf.Sort.Plain
import Derived.Shelf.Slices.In.SortNone
import Derived.Shelf.SlSortCmp.WholeK
import Derived.Shelf.SlSortCmp.NoneTotal
import Derived.Shelf.Spec.TrailingZeros
import Derived.Ground.Names2Prog
import Derived.Ground.SlsfProg
import Derived.Ground.Names7Prog
import Derived.Test.YthppjmoncapdfaaGreatDoorProg
import Derived.Test.YthppjmoncapdfaaGreatDoorClT
set_option maxRecDepth 100000
set_option linter.all false
namespace Go.Proofs.YthppjmoncapdfaaGreatDoor.cl.pf
open Go Go.AM
theorem law396 {d:List aq} (z:Sz d) (hf:Fz d) (f:FSt):f396 d f=some true:=l396 (c403 z hf) top_ok c399 f
end Go.Proofs.YthppjmoncapdfaaGreatDoor.cl.pf
set_option maxRecDepth 100000
namespace Go.Proofs.YthppjmoncapdfaaGreatDoor.cl
open Go Go.AM Go.RowKit Go.ChangeShapes Go.WideShapes Go.ChangeAt
section
variable {H:Type} {enc:TypeId×Value→H} {w:World}
theorem Uu {T:Type} {en:T→List AV} {t e sz:Nat} (hs:P.underlying t=some (.slice e)) (hc:P.cellsOf e=sz) (h0:0<sz) {n:Nat} (h:∀n,CK enc P w Rows.uptoBulk n e fun r7=>∃x:T,r7=en x):CK enc P w Rows.uptoBulk n t fun r7=>∃l:List T,r7=[.eH sz (l.map en)]:=by
 cases n with
 |zero=>exact CK.zero
 |succ n=>
  refine (JG uV (sz:=sz) hs hc h0 (h n)).mono ?_
  rintro a ⟨xs,rfl,hx⟩
  obtain ⟨l,rfl⟩:=Cc hx;exact ⟨l,rfl⟩
theorem rd93 (n:Nat):CK enc P w Rows.uptoBulk n 93 fun r7=>∃x:bQ,r7=x.enc:=by
 cases n with
 |zero=>exact CK.zero
 |succ n=>
  refine (xu uV (Qs:=[fun a=>∃x,a=jG x,fun a=>∃x,a=jG x]) Tryz.underlying93 (by kernel_rfl) (by kernel_rfl) ?_).mono ?_
  ·exact ⟨NK uV Tryz.underlying9,NK uV Tryz.underlying9,trivial⟩
  ·rintro a ⟨_,_,rfl,⟨s,rfl⟩,_,_,rfl,⟨v,rfl⟩,rfl⟩
   exact ⟨⟨s,v⟩,rfl⟩
theorem rd90 (n:Nat):CK enc P w Rows.uptoBulk n 90 fun r7=>∃x:aq,r7=x.enc:=by
 cases n with
 |zero=>exact CK.zero
 |succ n=>
  refine (xu uV (Qs:=[fun a=>∃x,a=jG x,fun a=>∃l:List (List UInt8),a=[.eH 1 (l.map jG)],fun a=>∃l:List bQ,a=[.eH 2 (l.map bQ.enc)]]) Tryz.underlying90 (by kernel_rfl) (by kernel_rfl) ?_).mono ?_
  ·exact ⟨NK uV Tryz.underlying9,Uu Tryz.underlying87 (by kernel_rfl) (by decide) fun n=>NK uV (n:=n) Tryz.underlying9,Uu Tryz.underlying88 (by kernel_rfl) (by decide) rd93,trivial⟩
  ·rintro a ⟨_,_,rfl,⟨s,rfl⟩,_,_,rfl,⟨l,rfl⟩,_,_,rfl,⟨m,rfl⟩,rfl⟩
   exact ⟨⟨s,l,m⟩,rfl⟩
variable {base:Nat} {NJ:Reach} {v:Value} {d:DataW H} {ps:List MemPlace}
theorem Xa (hok:Value.okWide Tryz.prog w NJ base 30 v) (hd:DataW.Trod enc Tryz.prog w 0 (fun _=>true) true 30 v d ps):∃l:List aq,rep (V2 w) (.eH 3 (l.map aq.enc)) v∧zb (l.map aq.enc)≤Rows.uptoBulk d:=by
 obtain ⟨ad,len,cap,rfl⟩:=okWide_slice Tryz.underlying30 hok;obtain ⟨a,⟨l,hl⟩,hr,hb,_⟩:=arg_one rfl hd fun n=>Uu (n:=n) (sz:=3) Tryz.underlying30 (by kernel_rfl) (by decide) rd90
 injection hl with hl
 subst hl;exact ⟨l,hr,by simp only [AV.bulk] at hb;omega⟩
end
theorem Dt {T:Type} {en:T→List AV} (h:∀x,1≤nh (en x)):∀l:List T,l.length≤zb (l.map en)
 |[]=>by simp
 |x::l=>by
  have h1:=Dt h l;have h2:=h x;simp only [aP,bg,zb];omega
theorem sz_of {d:List aq} (h:zb (d.map aq.enc)≤1048576):Sz d∧Fz d:=by
 have key:∀t∈d,t.dF.length≤1048576∧t.de.length≤1048576:=fun t ht=>by
  have h1:=Xg (jc (f:=aq.enc) ht);have h2:=Dt (en:=jG) (fun x=>by simp only [jG,nh,AV.bulk];omega) t.dF;have h3:=Dt (en:=bQ.enc) (fun x=>by simp only [bQ.enc,nh,AV.bulk];omega) t.de;simp only [aq.enc,nh,AV.bulk] at h1;omega
 have h4:=Dt (en:=aq.enc) (fun x=>by simp only [aq.enc,nh,AV.bulk];omega) d;exact ⟨⟨by omega,fun t ht=>(key t ht).1⟩,fun t ht=>(key t ht).2⟩
end Go.Proofs.YthppjmoncapdfaaGreatDoor.cl
namespace Go.Proofs
open Go.Shelf
def Tryz.F9:Go.Shelf.Ren:=⟨fun|156=>128|165=>187|166=>188|169=>189|240=>238|241=>239|276=>278|277=>279|n=>n,fun|31=>87|9=>9|3=>3|4=>4|0=>0|20=>20|72=>227|76=>230|70=>224|37=>225|75=>229|127=>266|164=>296|5=>5|80=>232|n=>n,fun|n=>n⟩
theorem Tryz.lays156:Go.Proofs.Lays.n156 Tryz.prog Tryz.F9:={
 mixed:=by kernel_rfl
 f156:=Tryz.func128.trans (aI some (by kernel_rfl))
 f165:=Tryz.func187.trans (aI some (by kernel_rfl))
 f166:=Tryz.func188.trans (aI some (by kernel_rfl))
 f169:=Tryz.func189.trans (aI some (by kernel_rfl))
 f240:=Tryz.func238.trans (aI some (by kernel_rfl))
 f241:=Tryz.func239.trans (aI some (by kernel_rfl))
 f276:=Tryz.func278.trans (aI some (by kernel_rfl))
 f277:=Tryz.func279.trans (aI some (by kernel_rfl))
 t0:=Tryz.underlying0
 a0:=Tryz.isAgg0
 z0:=Tryz.sizeOf0
 v0:=Tryz.zeroValue0
 t3:=Tryz.underlying3
 a3:=Tryz.isAgg3
 z3:=Tryz.sizeOf3
 v3:=Tryz.zeroValue3
 t4:=Tryz.underlying4
 a4:=Tryz.isAgg4
 z4:=Tryz.sizeOf4
 v4:=Tryz.zeroValue4
 t9:=Tryz.underlying9
 a9:=Tryz.isAgg9
 z9:=Tryz.sizeOf9
 v9:=Tryz.zeroValue9
 t20:=Tryz.underlying20
 a20:=Tryz.isAgg20
 z20:=Tryz.sizeOf20
 v20:=Tryz.zeroValue20
 t31:=Tryz.underlying87
 a31:=Tryz.isAgg87
 z31:=Tryz.sizeOf87
 v31:=Tryz.zeroValue87
 t37:=Tryz.underlying225
 a37:=Tryz.isAgg225
 z37:=Tryz.sizeOf225
 v37:=Tryz.zeroValue225
 t70:=Tryz.underlying224
 a70:=Tryz.isAgg224
 z70:=Tryz.sizeOf224
 v70:=Tryz.zeroValue224
 t72:=Tryz.underlying227
 a72:=Tryz.isAgg227
 z72:=Tryz.sizeOf227
 v72:=Tryz.zeroValue227
 t75:=Tryz.underlying229
 a75:=Tryz.isAgg229
 z75:=Tryz.sizeOf229
 v75:=Tryz.zeroValue229
 t76:=Tryz.underlying230
 a76:=Tryz.isAgg230
 z76:=Tryz.sizeOf230
 v76:=Tryz.zeroValue230
 t127:=Tryz.underlying266
 a127:=Tryz.isAgg266
 z127:=Tryz.sizeOf266
 v127:=Tryz.zeroValue266
 t164:=Tryz.underlying296
 a164:=Tryz.isAgg296
 z164:=Tryz.sizeOf296
 v164:=Tryz.zeroValue296 }
theorem Tryz.vE:Builder.Extra Tryz.prog Tryz.F9:={
 sizeBuilder:=by kernel_rfl
 liesBuilder:=by kernel_rfl
 t5:=Tryz.underlying5
 a5:=Tryz.isAgg5
 z5:=Tryz.sizeOf5
 v5:=Tryz.zeroValue5
 infoByte:=by kernel_rfl
 cellsByte:=by kernel_rfl
 sizeByte:=by kernel_rfl
 neB5:=by decide }
open Go.RowKit in
theorem Tryz.strings_Join_none (a:Option Addr) (c:Nat) (sep:ByteArray) (w:World):
  Calls Tryz.prog 128 #[.slice a 0 c, .string sep] w fun e w'=>e= .returned (.string ⟨#[]⟩)∧w'=w:=Any.strings_Join_none Tryz.lays156 Tryz.vE a c sep w
open Go.RowKit in
theorem Tryz.strings_Join (bk o c:Nat) (xs:List ByteArray) (sep:ByteArray) (w:World) (hcells:∀(j:Nat) x,xs[j]? =some x→w.cell? ⟨bk,o+j,none⟩=some (.string x)) (hbk:bk<w.heap.size) (hN:xs.length≤140737488355328) (hcap:xs.length≤c) (hlen:(Lib.join (xs.map (·.data.toList)) sep.data.toList).length≤140737488355328):
  Calls Tryz.prog 128 #[.slice (some ⟨bk,o,none⟩) xs.length c, .string sep] w fun e w'=>e= .returned (.string ⟨(Lib.join (xs.map (·.data.toList)) sep.data.toList).toArray⟩)∧Below w.heap.size w w':=Any.strings_Join Tryz.lays156 Tryz.vE bk o c xs sep w hcells hbk hN hcap hlen
def Tryz.QF:Go.Shelf.Ren:=⟨fun|190=>180|125=>197|258=>235|128=>251|129=>252|302=>270|303=>271|304=>272|305=>273|306=>274|307=>275|308=>236|309=>276|310=>277|333=>297|329=>281|330=>282|334=>298|335=>299|336=>200|344=>306|n=>n,fun|31=>87|9=>9|3=>3|46=>240|0=>0|51=>278|53=>164|4=>4|183=>272|182=>271|131=>79|5=>5|218=>299|222=>303|228=>314|229=>315|n=>n,fun|n=>n⟩
theorem Tryz.lays190:Go.Proofs.Lays.n190 Tryz.prog Tryz.QF:={
 mixed:=by kernel_rfl
 f125:=Tryz.func197.trans (aI some (by kernel_rfl))
 f128:=Tryz.func251.trans (aI some (by kernel_rfl))
 f129:=Tryz.func252.trans (aI some (by kernel_rfl))
 f190:=Tryz.func180.trans (aI some (by kernel_rfl))
 f258:=Tryz.func235.trans (aI some (by kernel_rfl))
 f302:=Tryz.func270.trans (aI some (by kernel_rfl))
 f303:=Tryz.func271.trans (aI some (by kernel_rfl))
 f304:=Tryz.func272.trans (aI some (by kernel_rfl))
 f305:=Tryz.func273.trans (aI some (by kernel_rfl))
 f306:=Tryz.func274.trans (aI some (by kernel_rfl))
 f307:=Tryz.func275.trans (aI some (by kernel_rfl))
 f308:=Tryz.func236.trans (aI some (by kernel_rfl))
 f309:=Tryz.func276.trans (aI some (by kernel_rfl))
 f310:=Tryz.func277.trans (aI some (by kernel_rfl))
 f329:=Tryz.func281.trans (aI some (by kernel_rfl))
 f330:=Tryz.func282.trans (aI some (by kernel_rfl))
 f333:=Tryz.func297.trans (aI some (by kernel_rfl))
 f334:=Tryz.func298.trans (aI some (by kernel_rfl))
 f335:=Tryz.func299.trans (aI some (by kernel_rfl))
 f336:=Tryz.func200.trans (aI some (by kernel_rfl))
 f344:=Tryz.func306.trans (aI some (by kernel_rfl))
 t0:=Tryz.underlying0
 a0:=Tryz.isAgg0
 z0:=Tryz.sizeOf0
 v0:=Tryz.zeroValue0
 t3:=Tryz.underlying3
 a3:=Tryz.isAgg3
 z3:=Tryz.sizeOf3
 v3:=Tryz.zeroValue3
 t4:=Tryz.underlying4
 a4:=Tryz.isAgg4
 z4:=Tryz.sizeOf4
 v4:=Tryz.zeroValue4
 t5:=Tryz.underlying5
 a5:=Tryz.isAgg5
 z5:=Tryz.sizeOf5
 v5:=Tryz.zeroValue5
 t9:=Tryz.underlying9
 a9:=Tryz.isAgg9
 z9:=Tryz.sizeOf9
 v9:=Tryz.zeroValue9
 t31:=Tryz.underlying87
 a31:=Tryz.isAgg87
 z31:=Tryz.sizeOf87
 v31:=Tryz.zeroValue87
 t46:=Tryz.underlying240
 a46:=Tryz.isAgg240
 z46:=Tryz.sizeOf240
 v46:=Tryz.zeroValue240
 t51:=Tryz.underlying278
 a51:=Tryz.isAgg278
 z51:=Tryz.sizeOf278
 v51:=Tryz.zeroValue278
 t53:=Tryz.underlying164
 a53:=Tryz.isAgg164
 z53:=Tryz.sizeOf164
 v53:=Tryz.zeroValue164
 t131:=Tryz.underlying79
 a131:=Tryz.isAgg79
 z131:=Tryz.sizeOf79
 v131:=Tryz.zeroValue79
 t182:=Tryz.underlying271
 a182:=Tryz.isAgg271
 z182:=Tryz.sizeOf271
 v182:=Tryz.zeroValue271
 t183:=Tryz.underlying272
 a183:=Tryz.isAgg272
 z183:=Tryz.sizeOf272
 v183:=Tryz.zeroValue272
 t218:=Tryz.underlying299
 a218:=Tryz.isAgg299
 z218:=Tryz.sizeOf299
 v218:=Tryz.zeroValue299
 t222:=Tryz.underlying303
 a222:=Tryz.isAgg303
 z222:=Tryz.sizeOf303
 v222:=Tryz.zeroValue303
 t228:=Tryz.underlying314
 a228:=Tryz.isAgg314
 z228:=Tryz.sizeOf314
 v228:=Tryz.zeroValue314
 t229:=Tryz.underlying315
 a229:=Tryz.isAgg315
 z229:=Tryz.sizeOf315
 v229:=Tryz.zeroValue315 }
def Tryz.TX:Go.Shelf.Ren:=⟨fun|6=>130|15=>197|14=>196|28=>251|29=>252|20=>243|21=>244|22=>245|23=>246|24=>247|25=>248|26=>249|27=>250|46=>280|47=>281|48=>282|49=>283|50=>284|57=>300|n=>n,fun|22=>106|24=>112|25=>186|3=>3|39=>240|0=>0|53=>278|55=>164|4=>4|46=>272|45=>271|50=>79|5=>5|9=>9|66=>299|70=>303|76=>314|77=>315|n=>n,fun|n=>n⟩
theorem Tryz.laysF6:Go.Proofs.SlLaysF0.n6 Tryz.prog Tryz.TX:={
 mixed:=by kernel_rfl
 f6:=⟨Tryz.f130.name,by decide,Tryz.func130.trans (aI some (by kernel_rfl))⟩
 f14:=⟨Tryz.f196.name,by decide,Tryz.func196.trans (aI some (by kernel_rfl))⟩
 f15:=Tryz.func197.trans (aI some (by kernel_rfl))
 f20:=⟨Tryz.f243.name,by decide,Tryz.func243.trans (aI some (by kernel_rfl))⟩
 f21:=⟨Tryz.f244.name,by decide,Tryz.func244.trans (aI some (by kernel_rfl))⟩
 f22:=⟨Tryz.f245.name,by decide,Tryz.func245.trans (aI some (by kernel_rfl))⟩
 f23:=⟨Tryz.f246.name,by decide,Tryz.func246.trans (aI some (by kernel_rfl))⟩
 f24:=⟨Tryz.f247.name,by decide,Tryz.func247.trans (aI some (by kernel_rfl))⟩
 f25:=⟨Tryz.f248.name,by decide,Tryz.func248.trans (aI some (by kernel_rfl))⟩
 f26:=⟨Tryz.f249.name,by decide,Tryz.func249.trans (aI some (by kernel_rfl))⟩
 f27:=⟨Tryz.f250.name,by decide,Tryz.func250.trans (aI some (by kernel_rfl))⟩
 f28:=Tryz.func251.trans (aI some (by kernel_rfl))
 f29:=Tryz.func252.trans (aI some (by kernel_rfl))
 f46:=⟨Tryz.f280.name,by decide,Tryz.func280.trans (aI some (by kernel_rfl))⟩
 f47:=Tryz.func281.trans (aI some (by kernel_rfl))
 f48:=Tryz.func282.trans (aI some (by kernel_rfl))
 f49:=⟨Tryz.f283.name,by decide,Tryz.func283.trans (aI some (by kernel_rfl))⟩
 f50:=⟨Tryz.f284.name,by decide,Tryz.func284.trans (aI some (by kernel_rfl))⟩
 f57:=⟨Tryz.f300.name,by decide,Tryz.func300.trans (aI some (by kernel_rfl))⟩
 t0:=Tryz.underlying0
 a0:=Tryz.isAgg0
 z0:=Tryz.sizeOf0
 v0:=Tryz.zeroValue0
 t3:=Tryz.underlying3
 a3:=Tryz.isAgg3
 z3:=Tryz.sizeOf3
 v3:=Tryz.zeroValue3
 t4:=Tryz.underlying4
 a4:=Tryz.isAgg4
 z4:=Tryz.sizeOf4
 v4:=Tryz.zeroValue4
 t5:=Tryz.underlying5
 a5:=Tryz.isAgg5
 z5:=Tryz.sizeOf5
 v5:=Tryz.zeroValue5
 t9:=Tryz.underlying9
 a9:=Tryz.isAgg9
 z9:=Tryz.sizeOf9
 v9:=Tryz.zeroValue9
 t22:=Tryz.underlying106
 a22:=Tryz.isAgg106
 z22:=Tryz.sizeOf106
 v22:=Tryz.zeroValue106
 t25:=Tryz.underlying186
 a25:=Tryz.isAgg186
 z25:=Tryz.sizeOf186
 v25:=Tryz.zeroValue186
 t39:=Tryz.underlying240
 a39:=Tryz.isAgg240
 z39:=Tryz.sizeOf240
 v39:=Tryz.zeroValue240
 t45:=Tryz.underlying271
 a45:=Tryz.isAgg271
 z45:=Tryz.sizeOf271
 v45:=Tryz.zeroValue271
 t46:=Tryz.underlying272
 a46:=Tryz.isAgg272
 z46:=Tryz.sizeOf272
 v46:=Tryz.zeroValue272
 t50:=Tryz.underlying79
 a50:=Tryz.isAgg79
 z50:=Tryz.sizeOf79
 v50:=Tryz.zeroValue79
 t53:=Tryz.underlying278
 a53:=Tryz.isAgg278
 z53:=Tryz.sizeOf278
 v53:=Tryz.zeroValue278
 t55:=Tryz.underlying164
 a55:=Tryz.isAgg164
 z55:=Tryz.sizeOf164
 v55:=Tryz.zeroValue164
 t66:=Tryz.underlying299
 a66:=Tryz.isAgg299
 z66:=Tryz.sizeOf299
 v66:=Tryz.zeroValue299
 t70:=Tryz.underlying303
 a70:=Tryz.isAgg303
 z70:=Tryz.sizeOf303
 v70:=Tryz.zeroValue303
 t76:=Tryz.underlying314
 a76:=Tryz.isAgg314
 z76:=Tryz.sizeOf314
 v76:=Tryz.zeroValue314
 t77:=Tryz.underlying315
 a77:=Tryz.isAgg315
 z77:=Tryz.sizeOf315
 v77:=Tryz.zeroValue315 }
def Tryz.QG:Go.Shelf.Ren:=⟨fun|6=>213|15=>197|14=>255|28=>251|29=>252|20=>287|21=>288|22=>289|23=>290|24=>291|25=>292|26=>293|27=>294|46=>303|47=>281|48=>282|49=>304|50=>305|57=>307|n=>n,fun|22=>50|24=>54|25=>209|3=>3|39=>240|0=>0|53=>278|55=>164|4=>4|46=>272|45=>271|50=>79|5=>5|9=>9|66=>299|70=>303|76=>314|77=>315|n=>n,fun|n=>n⟩
theorem Tryz.laysF6a:Go.Proofs.SlLaysF0.n6 Tryz.prog Tryz.QG:={
 mixed:=by kernel_rfl
 f6:=⟨Tryz.f213.name,by decide,Tryz.func213.trans (aI some (by kernel_rfl))⟩
 f14:=⟨Tryz.f255.name,by decide,Tryz.func255.trans (aI some (by kernel_rfl))⟩
 f15:=Tryz.func197.trans (aI some (by kernel_rfl))
 f20:=⟨Tryz.f287.name,by decide,Tryz.func287.trans (aI some (by kernel_rfl))⟩
 f21:=⟨Tryz.f288.name,by decide,Tryz.func288.trans (aI some (by kernel_rfl))⟩
 f22:=⟨Tryz.f289.name,by decide,Tryz.func289.trans (aI some (by kernel_rfl))⟩
 f23:=⟨Tryz.f290.name,by decide,Tryz.func290.trans (aI some (by kernel_rfl))⟩
 f24:=⟨Tryz.f291.name,by decide,Tryz.func291.trans (aI some (by kernel_rfl))⟩
 f25:=⟨Tryz.f292.name,by decide,Tryz.func292.trans (aI some (by kernel_rfl))⟩
 f26:=⟨Tryz.f293.name,by decide,Tryz.func293.trans (aI some (by kernel_rfl))⟩
 f27:=⟨Tryz.f294.name,by decide,Tryz.func294.trans (aI some (by kernel_rfl))⟩
 f28:=Tryz.func251.trans (aI some (by kernel_rfl))
 f29:=Tryz.func252.trans (aI some (by kernel_rfl))
 f46:=⟨Tryz.f303.name,by decide,Tryz.func303.trans (aI some (by kernel_rfl))⟩
 f47:=Tryz.func281.trans (aI some (by kernel_rfl))
 f48:=Tryz.func282.trans (aI some (by kernel_rfl))
 f49:=⟨Tryz.f304.name,by decide,Tryz.func304.trans (aI some (by kernel_rfl))⟩
 f50:=⟨Tryz.f305.name,by decide,Tryz.func305.trans (aI some (by kernel_rfl))⟩
 f57:=⟨Tryz.f307.name,by decide,Tryz.func307.trans (aI some (by kernel_rfl))⟩
 t0:=Tryz.underlying0
 a0:=Tryz.isAgg0
 z0:=Tryz.sizeOf0
 v0:=Tryz.zeroValue0
 t3:=Tryz.underlying3
 a3:=Tryz.isAgg3
 z3:=Tryz.sizeOf3
 v3:=Tryz.zeroValue3
 t4:=Tryz.underlying4
 a4:=Tryz.isAgg4
 z4:=Tryz.sizeOf4
 v4:=Tryz.zeroValue4
 t5:=Tryz.underlying5
 a5:=Tryz.isAgg5
 z5:=Tryz.sizeOf5
 v5:=Tryz.zeroValue5
 t9:=Tryz.underlying9
 a9:=Tryz.isAgg9
 z9:=Tryz.sizeOf9
 v9:=Tryz.zeroValue9
 t22:=Tryz.underlying50
 a22:=Tryz.isAgg50
 z22:=Tryz.sizeOf50
 v22:=Tryz.zeroValue50
 t25:=Tryz.underlying209
 a25:=Tryz.isAgg209
 z25:=Tryz.sizeOf209
 v25:=Tryz.zeroValue209
 t39:=Tryz.underlying240
 a39:=Tryz.isAgg240
 z39:=Tryz.sizeOf240
 v39:=Tryz.zeroValue240
 t45:=Tryz.underlying271
 a45:=Tryz.isAgg271
 z45:=Tryz.sizeOf271
 v45:=Tryz.zeroValue271
 t46:=Tryz.underlying272
 a46:=Tryz.isAgg272
 z46:=Tryz.sizeOf272
 v46:=Tryz.zeroValue272
 t50:=Tryz.underlying79
 a50:=Tryz.isAgg79
 z50:=Tryz.sizeOf79
 v50:=Tryz.zeroValue79
 t53:=Tryz.underlying278
 a53:=Tryz.isAgg278
 z53:=Tryz.sizeOf278
 v53:=Tryz.zeroValue278
 t55:=Tryz.underlying164
 a55:=Tryz.isAgg164
 z55:=Tryz.sizeOf164
 v55:=Tryz.zeroValue164
 t66:=Tryz.underlying299
 a66:=Tryz.isAgg299
 z66:=Tryz.sizeOf299
 v66:=Tryz.zeroValue299
 t70:=Tryz.underlying303
 a70:=Tryz.isAgg303
 z70:=Tryz.sizeOf303
 v70:=Tryz.zeroValue303
 t76:=Tryz.underlying314
 a76:=Tryz.isAgg314
 z76:=Tryz.sizeOf314
 v76:=Tryz.zeroValue314
 t77:=Tryz.underlying315
 a77:=Tryz.isAgg315
 z77:=Tryz.sizeOf315
 v77:=Tryz.zeroValue315 }
def Tryz.TW:Go.Shelf.Ren:=⟨fun|29=>186|n=>n,fun|22=>164|3=>3|4=>4|25=>240|54=>265|0=>0|5=>5|n=>n,fun|1=>0|n=>n⟩
theorem Tryz.lays29:Go.Proofs.Lays7.n29 Tryz.prog Tryz.TW:={
 mixed:=by kernel_rfl
 f29:=Tryz.func186.trans (aI some (by kernel_rfl))
 t0:=Tryz.underlying0
 a0:=Tryz.isAgg0
 z0:=Tryz.sizeOf0
 v0:=Tryz.zeroValue0
 i0:=by kernel_rfl
 t3:=Tryz.underlying3
 a3:=Tryz.isAgg3
 z3:=Tryz.sizeOf3
 v3:=Tryz.zeroValue3
 i3:=by kernel_rfl
 t4:=Tryz.underlying4
 a4:=Tryz.isAgg4
 z4:=Tryz.sizeOf4
 v4:=Tryz.zeroValue4
 i4:=by kernel_rfl
 t5:=Tryz.underlying5
 a5:=Tryz.isAgg5
 z5:=Tryz.sizeOf5
 v5:=Tryz.zeroValue5
 i5:=by kernel_rfl
 t22:=Tryz.underlying164
 a22:=Tryz.isAgg164
 z22:=Tryz.sizeOf164
 v22:=Tryz.zeroValue164
 i22:=by kernel_rfl
 t25:=Tryz.underlying240
 a25:=Tryz.isAgg240
 z25:=Tryz.sizeOf240
 v25:=Tryz.zeroValue240
 i25:=by kernel_rfl
 t54:=Tryz.underlying265
 a54:=Tryz.isAgg265
 z54:=Tryz.sizeOf265
 g1:=by kernel_rfl }
end Go.Proofs
namespace Go.Proofs.YthppjmoncapdfaaGreatDoor.cl
open Go Go.AM Go.RowKit
theorem LY {μ:Mu} {loc:Nat→Value} {w w':World} {e sz g n cap:Nat} {ys:List (List AV)} {us:List Value} {cur cur':Array Value}
  (gp:HW μ w) (nQ:loc 10000= .slice (some ⟨g,0,none⟩) n cap) (hcap:n≤cap) (Ts:cap≤maxLen) (hsize:cur.size=cap *sz) (hown:Fh w.heap.size (jV False loc [10000]) 10000 g) (tR:∀j,μ g j=none)
  (hg:w'.heap[g]? =some (.cells cur' e (0,0))) (hs:cur'.size=cur.size) (qW:cur'.toList.take (n *sz)=us) (Hj:us.length=n *sz) (Tt:∀b,b<w.heap.size→b≠g→w'.heap[b]? =w.heap[b]?)
  (hos:w'.os=w.os) (ht:w'.tape=w.tape) (hout:w'.output=w.output) (hgr:w.heap.size≤w'.heap.size) (hyl:ys.length=n) (hrc:c4 μ sz ys us):
  gd False μ loc [10000] (.mu []) [(10000, .row e sz ys)] w (.tuple #[]) μ loc w' where
 ext:=⟨Mu.le.refl _,fun _ _ _ h=> .inl h⟩
 uI:=fun b j x hx=>by
  have h:=gp b j x hx;have hne:b≠g:=fun e=>by subst e;rw [tR j] at hx;cases hx
  rw [fZ (Tt b (mq h) hne) j];exact h
 res:= .inl (by rw [rep.eq_def];exact ⟨[],rfl,rfl⟩)
 obs:=fun id o h=>by
  have hid:=lT h;subst hid;have ho:Ob.row e sz ys=o:=by simpa [find] using h
  subst ho;refine ⟨us,⟨by rw [Hj,hyl], .inr ⟨g,cap,cur',by rw [nQ,hyl],dh _,hg,by rw [hyl];exact hcap,Ts,by rw [hs,hsize],by rw [hyl];exact qW⟩⟩,hrc,fun q hq=> ?_⟩;have:q=g:=by
   rw [nQ] at hq;have h2:some g=some q:=iC.1 hq;exact (eS h2).symm
  subst this;exact ⟨hown,tR⟩
 apart:=fun i j oi oj hi hj hij=>absurd ((lT hi).trans (lT hj).symm) hij
 keep:=fun b hlt hl=>Tt b hlt (fun e=>by
  subst e
  exact hl ⟨10000,loc 10000,by simp [jV],by rw [nQ];exact iC.2 rfl⟩)
 fix:=fun _ _ _=>rfl
 os:=hos
 tape:=ht
 output:=hout
 grown:=hgr
 drawn:=fun h=>h.elim
end Go.Proofs.YthppjmoncapdfaaGreatDoor.cl
namespace Go.Proofs.YthppjmoncapdfaaGreatDoor.cl
open Go Go.AM Go.RowKit
theorem AJ {α:Type} {lt:α→α→Bool}:∀{l l':List α},l.Perm l'→mH lt l→mH lt l'→(∀x∈l,∀y∈l,lt x y=false→lt y x=false→x=y)→l=l':=by
 intro l
 induction l with
 |nil=>intro l' h _ _ _;exact (List.nil_perm.1 h).symm
 |cons x l ih=>
  intro l' h h1 h2 h3;cases l' with
  |nil=>exact absurd h.symm (by simp)
  |cons y l'=>
   have MO:=dX.1 h1;have KH:=dX.1 h2;have hxy:x=y:=by
    have hy:y∈x::l:=h.mem_iff.2 (by simp);have hx:x∈y::l':=h.mem_iff.1 (by simp);rcases aD.1 hy with e|hy'
    ·exact e.symm
    ·rcases aD.1 hx with e|hx'
     ·exact e
     ·exact h3 x (by simp) y hy (KH.1 x hx') (MO.1 y hy')
   subst hxy;rw [ih (List.Perm.cons_inv h) MO.2 KH.2 fun a ha b hb=>h3 a (by simp [ha]) b (by simp [hb])]
theorem tu {α:Type} (lt:α→α→Bool) (asymm:∀a b,lt a b=true→lt b a=false) (up:∀x y z,lt x y=true→lt z y=false→lt x z=true) (l:List α):mH lt (mz lt l)∧(mz lt l).Perm l:=by
 have ins:∀(x:α) (l:List α),(qV lt x l).Perm (x::l):=by
  intro x l
  induction l with
  |nil=>exact .refl _
  |cons y l ih=>
   unfold qV;split
   ·exact .refl _
   ·exact (ih.cons y).trans (.swap x y l)
 have key:∀(l E:List α),mH lt E→mH lt (l.foldl (fun out x=>qV lt x out) E)∧(l.foldl (fun out x=>qV lt x out) E).Perm (E++l):=by
  intro l
  induction l with
  |nil=>intro E hE;exact ⟨hE,by simp⟩
  |cons p l ih=>
   intro E hE;obtain ⟨h1,h2⟩:=ih _ (Ab lt asymm up hE (x:=p));refine ⟨h1,h2.trans ?_⟩;exact ((ins p E).append_right l).trans (ya (a:=p) (l₁:=E) (l₂:=l)).symm
 have:=key l [] (by simp [mH]);simpa [mz] using this
theorem EM (x y z:List UInt8) (h:Op.bytesLess x y=true) (h':Op.bytesLess z y=false):Op.bytesLess x z=true:=by
 by_cases e:z=y
 ·rw [e];exact h
 ·exact Ds _ _ _ h (zW _ _ h' e)
end Go.Proofs.YthppjmoncapdfaaGreatDoor.cl
namespace Go.Proofs.YthppjmoncapdfaaGreatDoor.cl
open Go Go.AM Go.RowKit
theorem QT (l:List (List UInt8)):(l.mergeSort fun x y=>decide (x≤y))=mz Op.bytesLess l:=by
 have e:(fun x y:List UInt8=>decide (x≤y))=fun x y=> !Op.bytesLess y x:=by
  funext x y
  rw [bytesLess_eq];by_cases h:y<x
  ·have:¬x≤y:=fun h'=>h' h
   simp [h,this]
  ·have:x≤y:=h
   simp [h,this]
 rw [e];obtain ⟨s1,s2⟩:=tu Op.bytesLess (fun a b h=>td h) EM l;refine AJ ((List.mergeSort_perm l _).trans s2.symm) ?_ s1 ?_
 ·have:=List.pairwise_mergeSort (le:=fun x y:List UInt8=> !Op.bytesLess y x) (fun a b c h1 h2=>by
   simp only [gV] at h1 h2⊢;cases hc:Op.bytesLess c a with
   |false=>rfl
   |true=>
    have:=EM _ _ _ hc h1
    rw [h2] at this;cases this) (fun a b=>by
   cases hc:Op.bytesLess b a with
   |false=>simp
   |true=>simp [td hc]) l
  refine this.imp ?_;intro a b h;simpa using h
 ·intro x _ y _ h1 h2
  apply dA;intro hne;have:=zW _ _ h1 hne;rw [h2] at this;cases this
open Go.Sort in
theorem IX {α:Type} [Inhabited α] {enc:α→Value} {w:World} {n g:Nat} {d:Array α} {os:Array Obj} {cur:Array Value} {e:TypeId} (hg:w.heap[g]? =some (.cells cur e (0,0))):
  (grow (putRow enc (Sort.ahead w n) g 0 d) os).heap[g]? =some (.cells (putCells enc 0 d cur) e (0,0))∧(∀b,b<w.heap.size→b≠g→(grow (putRow enc (Sort.ahead w n) g 0 d) os).heap[b]? =w.heap[b]?)∧w.heap.size≤(grow (putRow enc (Sort.ahead w n) g 0 d) os).heap.size:=by
 have hlt:g<w.heap.size:=(eG.1 hg).1;have hh:(grow (putRow enc (Sort.ahead w n) g 0 d) os).heap=w.heap.modify g (onCells (putCells enc 0 d))++os:=rfl;rw [hh];refine ⟨?_,fun b hb hne=> ?_,?_⟩
 ·rw [uf (by simpa using hlt),yj,au rfl,hg];rfl
 ·rw [uf (by simpa using hb),yj,ak (fun h=>hne h.symm)]
 ·simp
open Go.Sort in
theorem RY {α:Type} [Inhabited α] {enc:α→Value} {l:List α} {cur:Array Value} (h:l.length≤cur.size):(putCells enc 0 l.toArray cur).size=cur.size∧(putCells enc 0 l.toArray cur).toList.take l.length=l.map enc:=by
 refine ⟨by simp [putCells],?_⟩;apply kE;intro i;by_cases hi:i<l.length
 ·rw [oB,au hi,cZ,aH hi]
  have hc:i<cur.size:=by omega
  simp [putCells,hi,hc,aH hi]
 ·rw [fc (by simp;omega),fc (by simp;omega)]
theorem BS {μ:Mu}:∀{l:List (List UInt8)} {vs:List Value},c4 μ 1 (l.map jG) vs↔vs=l.map encStr:=by
 intro l
 induction l with
 |nil=>intro vs;exact Iff.rfl
 |cons s l ih=>
  intro vs;constructor
  ·rintro ⟨us,ws,rfl,hu,_,hw⟩
   have hu1:=hu.1;simp only [jG,bV] at hu1;obtain ⟨u,us',rfl,hr,rfl⟩:=hu1;rw [rep] at hr;subst hr;rw [ih.1 hw];rfl
  ·rintro rfl
   exact ⟨[encStr s],l.map encStr,rfl,⟨⟨_,_,rfl,by rw [rep],rfl⟩,fun u hu=>by
    simp only [bP] at hu;subst hu;rfl⟩,rfl,ih.2 rfl⟩
theorem LW {μ:Mu} {loc:Nat→Value} {w:World} {o:Ob} (gp:HW μ w) (dG:mE w.heap.size (jV False loc [10000]) μ loc w 10000 o):gd False μ loc [10000] (.mu []) [(10000,o)] w (.tuple #[]) μ loc w where
 ext:=⟨Mu.le.refl _,fun _ _ _ h=> .inl h⟩
 uI:=gp
 res:= .inl (by rw [rep.eq_def];exact ⟨[],rfl,rfl⟩)
 obs:=fun id o' h=>by
  have hid:=lT h;subst hid;have ho:o=o':=by simpa [find] using h
  subst ho;exact dG
 apart:=fun i j oi oj hi hj hij=>absurd ((lT hi).trans (lT hj).symm) hij
 keep:=fun _ _ _=>rfl
 fix:=fun _ _ _=>rfl
 os:=rfl
 tape:=rfl
 output:=rfl
 grown:=aS _
 drawn:=fun h=>h.elim
theorem sort80 {μ:Mu} {loc:Nat→Value} {w:World} {l:List (List UInt8)} (hlen:l.length≤1073741824) (gp:HW μ w) (dG:mE w.heap.size (jV False loc [10000]) μ loc w 10000 (.row 9 1 (l.map jG))):
  Calls P 180 #[loc 10000] w fun e w'=>∃v μ' loc',e= .returned v∧gd False μ loc [10000] (.mu []) [(10000, .row 9 1 ((mz Op.bytesLess l).map jG))] w v μ' loc' w':=by
 have vD:=dG;obtain ⟨vs,hown,hrc,wC⟩:=vD;have hvs:=BS.1 hrc;rcases hown.2 with ⟨e1,h0⟩|⟨g,cap,cur,e1,_,hg,hcap,Ts,hsz,Aa⟩
 ·have hl:l=[]:=by
   cases l with
   |nil=>rfl
   |cons a b=>simp at h0
  subst hl;have hc:Calls P 180 #[.slice none 0 0] w fun e w'=>e= .returned (.tuple #[])∧w'=w:=Any.slices_Sort_string_none Tryz.lays190 none 0 w
  rw [e1];refine hc.mono ?_
  rintro e w' ⟨rfl,rfl⟩
  exact ⟨_,μ,loc,rfl,LW gp dG⟩
 ·have MT:(l.map jG).length=l.length:=by simp
  rw [MT] at e1 hcap Aa;rw [yl] at hsz Aa;rw [hvs] at Aa;have hin:jH (loc 10000) g:=by rw [e1];exact iC.2 rfl
  obtain ⟨aai,tR⟩:=wC g hin;have hlt:g<w.heap.size:=(eG.1 hg).1;have hcell:∀(j:Nat) (hj:j<l.length),cur[j]? =some (encStr l[j]):=by
   intro j hj;have h1:(cur.toList.take l.length)[j]? =some (encStr l[j]):=by
    rw [Aa,cZ,aH hj];rfl
   rw [oB,au hj] at h1;simpa using h1
  have hH:Go.Sort.Holds encStr w g 0 l.toArray:=by
   intro j hj;have hj':j<l.length:=by simpa using hj
   have hcj:=hcell j hj';rw [gE];refine ⟨?_,?_⟩
   ·unfold World.cell?
    simp only [hg];simp [hcj,hj']
   ·unfold World.frozen?
    simp [hg]
  have hc:Calls P 180 #[.slice (some ⟨g,0,none⟩) l.length cap] w fun e w'=>e= .returned (.tuple #[])∧∃n os,w'=Go.Sort.grow (Go.Sort.putRow encStr (Go.Sort.ahead w n) g 0 (l.mergeSort fun x y=>decide (x≤y)).toArray) os:=Any.slices_Sort_string Tryz.lays190 g 0 cap l w hH hlt (by omega)
  rw [e1];refine hc.mono ?_
  rintro e w' ⟨rfl,n,os,rfl⟩
  rw [QT];have CL:(mz Op.bytesLess l).length=l.length:=(tu Op.bytesLess (fun a b h=>td h) EM l).2.length_eq;obtain ⟨k1,k2,k3⟩:=IX (enc:=encStr) (n:=n) (d:=(mz Op.bytesLess l).toArray) (os:=os) hg;obtain ⟨t1,t2⟩:=RY (enc:=encStr) (l:=mz Op.bytesLess l) (cur:=cur) (by omega);refine ⟨_,μ,loc,rfl,LY (cur:=cur) (us:=(mz Op.bytesLess l).map encStr) gp e1 hcap Ts (by rw [yl];exact hsz) aai tR k1 t1 (by rw [yl,←CL];exact t2) (by simp [CL]) k2 rfl rfl rfl k3 (by simp [CL]) (BS.2 rfl)⟩
end Go.Proofs.YthppjmoncapdfaaGreatDoor.cl
