/- DERIVED. -/
import Derived.Shelf.Strings.OnBuilder
import Derived.Shelf.Sort.Plain
import Derived.Shelf.Slices.In.SortNone
import Derived.Shelf.SlSortCmp.WholeK
import Derived.Shelf.SlSortCmp.NoneTotal
import Derived.Shelf.Spec.TrailingZeros
import Derived.Ground.Names2Prog
import Derived.Ground.SlsfProg
import Derived.Ground.Names7Prog
import Derived.Test.YthppjmoncapdfaaGreatDoorProg
import Derived.Test.YthppjmoncapdfaaGreatDoorAmI
import Derived.Deep.Slices
import Derived.OpenShut
import Derived.Carry
import Derived.ProofKit
import Derived.Test.YthppjmoncapdfaaGreatDoorClT
namespace Go.Proofs
open Go.Shelf
def Tryz.AH:Go.Shelf.Ren:=⟨fun|156=>128|165=>187|166=>188|169=>189|240=>238|241=>239|276=>278|277=>279|n=>n,fun|31=>87|9=>9|3=>3|4=>4|0=>0|20=>20|72=>227|76=>230|70=>224|37=>225|75=>229|127=>266|164=>296|5=>5|80=>232|n=>n,fun|n=>n⟩
theorem Tryz.lays156:Go.Proofs.Lays.n156 Tryz.prog Tryz.AH:={
 mixed:=by kernel_rfl
 f156:=Tryz.func128.trans (congrArg some (by kernel_rfl))
 f165:=Tryz.func187.trans (congrArg some (by kernel_rfl))
 f166:=Tryz.func188.trans (congrArg some (by kernel_rfl))
 f169:=Tryz.func189.trans (congrArg some (by kernel_rfl))
 f240:=Tryz.func238.trans (congrArg some (by kernel_rfl))
 f241:=Tryz.func239.trans (congrArg some (by kernel_rfl))
 f276:=Tryz.func278.trans (congrArg some (by kernel_rfl))
 f277:=Tryz.func279.trans (congrArg some (by kernel_rfl))
 t0:=Tryz.underlying0
 a0:=Tryz.isAgg0
 z0:=Tryz.sizeOf0
 v0:=Tryz.zeroValue0
 t3:=Tryz.underlying3
 a3:=Tryz.isAgg3
 z3:=Tryz.sizeOf3
 v3:=Tryz.zeroValue3
 t4:=Tryz.underlying4
 a4:=Tryz.isAgg4
 z4:=Tryz.sizeOf4
 v4:=Tryz.zeroValue4
 t9:=Tryz.underlying9
 a9:=Tryz.isAgg9
 z9:=Tryz.sizeOf9
 v9:=Tryz.zeroValue9
 t20:=Tryz.underlying20
 a20:=Tryz.isAgg20
 z20:=Tryz.sizeOf20
 v20:=Tryz.zeroValue20
 t31:=Tryz.underlying87
 a31:=Tryz.isAgg87
 z31:=Tryz.sizeOf87
 v31:=Tryz.zeroValue87
 t37:=Tryz.underlying225
 a37:=Tryz.isAgg225
 z37:=Tryz.sizeOf225
 v37:=Tryz.zeroValue225
 t70:=Tryz.underlying224
 a70:=Tryz.isAgg224
 z70:=Tryz.sizeOf224
 v70:=Tryz.zeroValue224
 t72:=Tryz.underlying227
 a72:=Tryz.isAgg227
 z72:=Tryz.sizeOf227
 v72:=Tryz.zeroValue227
 t75:=Tryz.underlying229
 a75:=Tryz.isAgg229
 z75:=Tryz.sizeOf229
 v75:=Tryz.zeroValue229
 t76:=Tryz.underlying230
 a76:=Tryz.isAgg230
 z76:=Tryz.sizeOf230
 v76:=Tryz.zeroValue230
 t127:=Tryz.underlying266
 a127:=Tryz.isAgg266
 z127:=Tryz.sizeOf266
 v127:=Tryz.zeroValue266
 t164:=Tryz.underlying296
 a164:=Tryz.isAgg296
 z164:=Tryz.sizeOf296
 v164:=Tryz.zeroValue296 }
theorem Tryz.qJ:Builder.Extra Tryz.prog Tryz.AH:={
 sizeBuilder:=by kernel_rfl
 liesBuilder:=by kernel_rfl
 t5:=Tryz.underlying5
 a5:=Tryz.isAgg5
 z5:=Tryz.sizeOf5
 v5:=Tryz.zeroValue5
 infoByte:=by kernel_rfl
 cellsByte:=by kernel_rfl
 sizeByte:=by kernel_rfl
 neB5:=by decide }
open Go.RowKit in
theorem Tryz.strings_Join_none (a:Option Addr) (c:Nat) (sep:ByteArray) (w:World):
  Calls Tryz.prog 128 #[.slice a 0 c, .string sep] w fun e w'=>e= .returned (.string ⟨#[]⟩)∧w'=w:=Any.strings_Join_none Tryz.lays156 Tryz.qJ a c sep w
open Go.RowKit in
theorem Tryz.strings_Join (bk o c:Nat) (xs:List ByteArray) (sep:ByteArray) (w:World) (hcells:∀(j:Nat) x,xs[j]? =some x→w.cell? ⟨bk,o+j,none⟩=some (.string x)) (hbk:bk<w.heap.size) (hN:xs.length≤140737488355328) (hcap:xs.length≤c) (hlen:(Lib.join (xs.map (·.data.toList)) sep.data.toList).length≤140737488355328):
  Calls Tryz.prog 128 #[.slice (some ⟨bk,o,none⟩) xs.length c, .string sep] w fun e w'=>e= .returned (.string ⟨(Lib.join (xs.map (·.data.toList)) sep.data.toList).toArray⟩)∧Below w.heap.size w w':=Any.strings_Join Tryz.lays156 Tryz.qJ bk o c xs sep w hcells hbk hN hcap hlen
def Tryz.JZ:Go.Shelf.Ren:=⟨fun|190=>180|125=>197|258=>235|128=>251|129=>252|302=>270|303=>271|304=>272|305=>273|306=>274|307=>275|308=>236|309=>276|310=>277|333=>297|329=>281|330=>282|334=>298|335=>299|336=>200|344=>306|n=>n,fun|31=>87|9=>9|3=>3|46=>240|0=>0|51=>278|53=>164|4=>4|183=>272|182=>271|131=>79|5=>5|218=>299|222=>303|228=>314|229=>315|n=>n,fun|n=>n⟩
theorem Tryz.lays190:Go.Proofs.Lays.n190 Tryz.prog Tryz.JZ:={
 mixed:=by kernel_rfl
 f125:=Tryz.func197.trans (congrArg some (by kernel_rfl))
 f128:=Tryz.func251.trans (congrArg some (by kernel_rfl))
 f129:=Tryz.func252.trans (congrArg some (by kernel_rfl))
 f190:=Tryz.func180.trans (congrArg some (by kernel_rfl))
 f258:=Tryz.func235.trans (congrArg some (by kernel_rfl))
 f302:=Tryz.func270.trans (congrArg some (by kernel_rfl))
 f303:=Tryz.func271.trans (congrArg some (by kernel_rfl))
 f304:=Tryz.func272.trans (congrArg some (by kernel_rfl))
 f305:=Tryz.func273.trans (congrArg some (by kernel_rfl))
 f306:=Tryz.func274.trans (congrArg some (by kernel_rfl))
 f307:=Tryz.func275.trans (congrArg some (by kernel_rfl))
 f308:=Tryz.func236.trans (congrArg some (by kernel_rfl))
 f309:=Tryz.func276.trans (congrArg some (by kernel_rfl))
 f310:=Tryz.func277.trans (congrArg some (by kernel_rfl))
 f329:=Tryz.func281.trans (congrArg some (by kernel_rfl))
 f330:=Tryz.func282.trans (congrArg some (by kernel_rfl))
 f333:=Tryz.func297.trans (congrArg some (by kernel_rfl))
 f334:=Tryz.func298.trans (congrArg some (by kernel_rfl))
 f335:=Tryz.func299.trans (congrArg some (by kernel_rfl))
 f336:=Tryz.func200.trans (congrArg some (by kernel_rfl))
 f344:=Tryz.func306.trans (congrArg some (by kernel_rfl))
 t0:=Tryz.underlying0
 a0:=Tryz.isAgg0
 z0:=Tryz.sizeOf0
 v0:=Tryz.zeroValue0
 t3:=Tryz.underlying3
 a3:=Tryz.isAgg3
 z3:=Tryz.sizeOf3
 v3:=Tryz.zeroValue3
 t4:=Tryz.underlying4
 a4:=Tryz.isAgg4
 z4:=Tryz.sizeOf4
 v4:=Tryz.zeroValue4
 t5:=Tryz.underlying5
 a5:=Tryz.isAgg5
 z5:=Tryz.sizeOf5
 v5:=Tryz.zeroValue5
 t9:=Tryz.underlying9
 a9:=Tryz.isAgg9
 z9:=Tryz.sizeOf9
 v9:=Tryz.zeroValue9
 t31:=Tryz.underlying87
 a31:=Tryz.isAgg87
 z31:=Tryz.sizeOf87
 v31:=Tryz.zeroValue87
 t46:=Tryz.underlying240
 a46:=Tryz.isAgg240
 z46:=Tryz.sizeOf240
 v46:=Tryz.zeroValue240
 t51:=Tryz.underlying278
 a51:=Tryz.isAgg278
 z51:=Tryz.sizeOf278
 v51:=Tryz.zeroValue278
 t53:=Tryz.underlying164
 a53:=Tryz.isAgg164
 z53:=Tryz.sizeOf164
 v53:=Tryz.zeroValue164
 t131:=Tryz.underlying79
 a131:=Tryz.isAgg79
 z131:=Tryz.sizeOf79
 v131:=Tryz.zeroValue79
 t182:=Tryz.underlying271
 a182:=Tryz.isAgg271
 z182:=Tryz.sizeOf271
 v182:=Tryz.zeroValue271
 t183:=Tryz.underlying272
 a183:=Tryz.isAgg272
 z183:=Tryz.sizeOf272
 v183:=Tryz.zeroValue272
 t218:=Tryz.underlying299
 a218:=Tryz.isAgg299
 z218:=Tryz.sizeOf299
 v218:=Tryz.zeroValue299
 t222:=Tryz.underlying303
 a222:=Tryz.isAgg303
 z222:=Tryz.sizeOf303
 v222:=Tryz.zeroValue303
 t228:=Tryz.underlying314
 a228:=Tryz.isAgg314
 z228:=Tryz.sizeOf314
 v228:=Tryz.zeroValue314
 t229:=Tryz.underlying315
 a229:=Tryz.isAgg315
 z229:=Tryz.sizeOf315
 v229:=Tryz.zeroValue315 }
def Tryz.MO:Go.Shelf.Ren:=⟨fun|6=>130|15=>197|14=>196|28=>251|29=>252|20=>243|21=>244|22=>245|23=>246|24=>247|25=>248|26=>249|27=>250|46=>280|47=>281|48=>282|49=>283|50=>284|57=>300|n=>n,fun|22=>106|24=>112|25=>186|3=>3|39=>240|0=>0|53=>278|55=>164|4=>4|46=>272|45=>271|50=>79|5=>5|9=>9|66=>299|70=>303|76=>314|77=>315|n=>n,fun|n=>n⟩
theorem Tryz.laysF6:Go.Proofs.SlLaysF0.n6 Tryz.prog Tryz.MO:={
 mixed:=by kernel_rfl
 f6:=⟨Tryz.f130.name,by decide,Tryz.func130.trans (congrArg some (by kernel_rfl))⟩
 f14:=⟨Tryz.f196.name,by decide,Tryz.func196.trans (congrArg some (by kernel_rfl))⟩
 f15:=Tryz.func197.trans (congrArg some (by kernel_rfl))
 f20:=⟨Tryz.f243.name,by decide,Tryz.func243.trans (congrArg some (by kernel_rfl))⟩
 f21:=⟨Tryz.f244.name,by decide,Tryz.func244.trans (congrArg some (by kernel_rfl))⟩
 f22:=⟨Tryz.f245.name,by decide,Tryz.func245.trans (congrArg some (by kernel_rfl))⟩
 f23:=⟨Tryz.f246.name,by decide,Tryz.func246.trans (congrArg some (by kernel_rfl))⟩
 f24:=⟨Tryz.f247.name,by decide,Tryz.func247.trans (congrArg some (by kernel_rfl))⟩
 f25:=⟨Tryz.f248.name,by decide,Tryz.func248.trans (congrArg some (by kernel_rfl))⟩
 f26:=⟨Tryz.f249.name,by decide,Tryz.func249.trans (congrArg some (by kernel_rfl))⟩
 f27:=⟨Tryz.f250.name,by decide,Tryz.func250.trans (congrArg some (by kernel_rfl))⟩
 f28:=Tryz.func251.trans (congrArg some (by kernel_rfl))
 f29:=Tryz.func252.trans (congrArg some (by kernel_rfl))
 f46:=⟨Tryz.f280.name,by decide,Tryz.func280.trans (congrArg some (by kernel_rfl))⟩
 f47:=Tryz.func281.trans (congrArg some (by kernel_rfl))
 f48:=Tryz.func282.trans (congrArg some (by kernel_rfl))
 f49:=⟨Tryz.f283.name,by decide,Tryz.func283.trans (congrArg some (by kernel_rfl))⟩
 f50:=⟨Tryz.f284.name,by decide,Tryz.func284.trans (congrArg some (by kernel_rfl))⟩
 f57:=⟨Tryz.f300.name,by decide,Tryz.func300.trans (congrArg some (by kernel_rfl))⟩
 t0:=Tryz.underlying0
 a0:=Tryz.isAgg0
 z0:=Tryz.sizeOf0
 v0:=Tryz.zeroValue0
 t3:=Tryz.underlying3
 a3:=Tryz.isAgg3
 z3:=Tryz.sizeOf3
 v3:=Tryz.zeroValue3
 t4:=Tryz.underlying4
 a4:=Tryz.isAgg4
 z4:=Tryz.sizeOf4
 v4:=Tryz.zeroValue4
 t5:=Tryz.underlying5
 a5:=Tryz.isAgg5
 z5:=Tryz.sizeOf5
 v5:=Tryz.zeroValue5
 t9:=Tryz.underlying9
 a9:=Tryz.isAgg9
 z9:=Tryz.sizeOf9
 v9:=Tryz.zeroValue9
 t22:=Tryz.underlying106
 a22:=Tryz.isAgg106
 z22:=Tryz.sizeOf106
 v22:=Tryz.zeroValue106
 t25:=Tryz.underlying186
 a25:=Tryz.isAgg186
 z25:=Tryz.sizeOf186
 v25:=Tryz.zeroValue186
 t39:=Tryz.underlying240
 a39:=Tryz.isAgg240
 z39:=Tryz.sizeOf240
 v39:=Tryz.zeroValue240
 t45:=Tryz.underlying271
 a45:=Tryz.isAgg271
 z45:=Tryz.sizeOf271
 v45:=Tryz.zeroValue271
 t46:=Tryz.underlying272
 a46:=Tryz.isAgg272
 z46:=Tryz.sizeOf272
 v46:=Tryz.zeroValue272
 t50:=Tryz.underlying79
 a50:=Tryz.isAgg79
 z50:=Tryz.sizeOf79
 v50:=Tryz.zeroValue79
 t53:=Tryz.underlying278
 a53:=Tryz.isAgg278
 z53:=Tryz.sizeOf278
 v53:=Tryz.zeroValue278
 t55:=Tryz.underlying164
 a55:=Tryz.isAgg164
 z55:=Tryz.sizeOf164
 v55:=Tryz.zeroValue164
 t66:=Tryz.underlying299
 a66:=Tryz.isAgg299
 z66:=Tryz.sizeOf299
 v66:=Tryz.zeroValue299
 t70:=Tryz.underlying303
 a70:=Tryz.isAgg303
 z70:=Tryz.sizeOf303
 v70:=Tryz.zeroValue303
 t76:=Tryz.underlying314
 a76:=Tryz.isAgg314
 z76:=Tryz.sizeOf314
 v76:=Tryz.zeroValue314
 t77:=Tryz.underlying315
 a77:=Tryz.isAgg315
 z77:=Tryz.sizeOf315
 v77:=Tryz.zeroValue315 }
def Tryz.J4:Go.Shelf.Ren:=⟨fun|6=>213|15=>197|14=>255|28=>251|29=>252|20=>287|21=>288|22=>289|23=>290|24=>291|25=>292|26=>293|27=>294|46=>303|47=>281|48=>282|49=>304|50=>305|57=>307|n=>n,fun|22=>50|24=>54|25=>209|3=>3|39=>240|0=>0|53=>278|55=>164|4=>4|46=>272|45=>271|50=>79|5=>5|9=>9|66=>299|70=>303|76=>314|77=>315|n=>n,fun|n=>n⟩
theorem Tryz.VF:Go.Proofs.SlLaysF0.n6 Tryz.prog Tryz.J4:={
 mixed:=by kernel_rfl
 f6:=⟨Tryz.f213.name,by decide,Tryz.func213.trans (congrArg some (by kernel_rfl))⟩
 f14:=⟨Tryz.f255.name,by decide,Tryz.func255.trans (congrArg some (by kernel_rfl))⟩
 f15:=Tryz.func197.trans (congrArg some (by kernel_rfl))
 f20:=⟨Tryz.f287.name,by decide,Tryz.func287.trans (congrArg some (by kernel_rfl))⟩
 f21:=⟨Tryz.f288.name,by decide,Tryz.func288.trans (congrArg some (by kernel_rfl))⟩
 f22:=⟨Tryz.f289.name,by decide,Tryz.func289.trans (congrArg some (by kernel_rfl))⟩
 f23:=⟨Tryz.f290.name,by decide,Tryz.func290.trans (congrArg some (by kernel_rfl))⟩
 f24:=⟨Tryz.f291.name,by decide,Tryz.func291.trans (congrArg some (by kernel_rfl))⟩
 f25:=⟨Tryz.f292.name,by decide,Tryz.func292.trans (congrArg some (by kernel_rfl))⟩
 f26:=⟨Tryz.f293.name,by decide,Tryz.func293.trans (congrArg some (by kernel_rfl))⟩
 f27:=⟨Tryz.f294.name,by decide,Tryz.func294.trans (congrArg some (by kernel_rfl))⟩
 f28:=Tryz.func251.trans (congrArg some (by kernel_rfl))
 f29:=Tryz.func252.trans (congrArg some (by kernel_rfl))
 f46:=⟨Tryz.f303.name,by decide,Tryz.func303.trans (congrArg some (by kernel_rfl))⟩
 f47:=Tryz.func281.trans (congrArg some (by kernel_rfl))
 f48:=Tryz.func282.trans (congrArg some (by kernel_rfl))
 f49:=⟨Tryz.f304.name,by decide,Tryz.func304.trans (congrArg some (by kernel_rfl))⟩
 f50:=⟨Tryz.f305.name,by decide,Tryz.func305.trans (congrArg some (by kernel_rfl))⟩
 f57:=⟨Tryz.f307.name,by decide,Tryz.func307.trans (congrArg some (by kernel_rfl))⟩
 t0:=Tryz.underlying0
 a0:=Tryz.isAgg0
 z0:=Tryz.sizeOf0
 v0:=Tryz.zeroValue0
 t3:=Tryz.underlying3
 a3:=Tryz.isAgg3
 z3:=Tryz.sizeOf3
 v3:=Tryz.zeroValue3
 t4:=Tryz.underlying4
 a4:=Tryz.isAgg4
 z4:=Tryz.sizeOf4
 v4:=Tryz.zeroValue4
 t5:=Tryz.underlying5
 a5:=Tryz.isAgg5
 z5:=Tryz.sizeOf5
 v5:=Tryz.zeroValue5
 t9:=Tryz.underlying9
 a9:=Tryz.isAgg9
 z9:=Tryz.sizeOf9
 v9:=Tryz.zeroValue9
 t22:=Tryz.underlying50
 a22:=Tryz.isAgg50
 z22:=Tryz.sizeOf50
 v22:=Tryz.zeroValue50
 t25:=Tryz.underlying209
 a25:=Tryz.isAgg209
 z25:=Tryz.sizeOf209
 v25:=Tryz.zeroValue209
 t39:=Tryz.underlying240
 a39:=Tryz.isAgg240
 z39:=Tryz.sizeOf240
 v39:=Tryz.zeroValue240
 t45:=Tryz.underlying271
 a45:=Tryz.isAgg271
 z45:=Tryz.sizeOf271
 v45:=Tryz.zeroValue271
 t46:=Tryz.underlying272
 a46:=Tryz.isAgg272
 z46:=Tryz.sizeOf272
 v46:=Tryz.zeroValue272
 t50:=Tryz.underlying79
 a50:=Tryz.isAgg79
 z50:=Tryz.sizeOf79
 v50:=Tryz.zeroValue79
 t53:=Tryz.underlying278
 a53:=Tryz.isAgg278
 z53:=Tryz.sizeOf278
 v53:=Tryz.zeroValue278
 t55:=Tryz.underlying164
 a55:=Tryz.isAgg164
 z55:=Tryz.sizeOf164
 v55:=Tryz.zeroValue164
 t66:=Tryz.underlying299
 a66:=Tryz.isAgg299
 z66:=Tryz.sizeOf299
 v66:=Tryz.zeroValue299
 t70:=Tryz.underlying303
 a70:=Tryz.isAgg303
 z70:=Tryz.sizeOf303
 v70:=Tryz.zeroValue303
 t76:=Tryz.underlying314
 a76:=Tryz.isAgg314
 z76:=Tryz.sizeOf314
 v76:=Tryz.zeroValue314
 t77:=Tryz.underlying315
 a77:=Tryz.isAgg315
 z77:=Tryz.sizeOf315
 v77:=Tryz.zeroValue315 }
def Tryz.MN:Go.Shelf.Ren:=⟨fun|29=>186|n=>n,fun|22=>164|3=>3|4=>4|25=>240|54=>265|0=>0|5=>5|n=>n,fun|1=>0|n=>n⟩
theorem Tryz.lays29:Go.Proofs.Lays7.n29 Tryz.prog Tryz.MN:={
 mixed:=by kernel_rfl
 f29:=Tryz.func186.trans (congrArg some (by kernel_rfl))
 t0:=Tryz.underlying0
 a0:=Tryz.isAgg0
 z0:=Tryz.sizeOf0
 v0:=Tryz.zeroValue0
 i0:=by kernel_rfl
 t3:=Tryz.underlying3
 a3:=Tryz.isAgg3
 z3:=Tryz.sizeOf3
 v3:=Tryz.zeroValue3
 i3:=by kernel_rfl
 t4:=Tryz.underlying4
 a4:=Tryz.isAgg4
 z4:=Tryz.sizeOf4
 v4:=Tryz.zeroValue4
 i4:=by kernel_rfl
 t5:=Tryz.underlying5
 a5:=Tryz.isAgg5
 z5:=Tryz.sizeOf5
 v5:=Tryz.zeroValue5
 i5:=by kernel_rfl
 t22:=Tryz.underlying164
 a22:=Tryz.isAgg164
 z22:=Tryz.sizeOf164
 v22:=Tryz.zeroValue164
 i22:=by kernel_rfl
 t25:=Tryz.underlying240
 a25:=Tryz.isAgg240
 z25:=Tryz.sizeOf240
 v25:=Tryz.zeroValue240
 i25:=by kernel_rfl
 t54:=Tryz.underlying265
 a54:=Tryz.isAgg265
 z54:=Tryz.sizeOf265
 g1:=by kernel_rfl }
end Go.Proofs
set_option linter.unusedVariables false
set_option linter.unusedSimpArgs false
namespace Go.AM
open Go.RowKit Go.ChangeShapes Go.WideShapes Go.ChangeAt
mutual
def AV.bulk:AV→Nat
 | .str s=>s.length+1
 | .aW _ xs=>EV xs+1
 | .agg cs=>mE cs
 | .bool _=>1
 | .int _ _=>1
 | .fn _ _=>1
 | .dI cs=>mE cs
 | .ref _=>1
 | .mp _ _=>1
 | .self _=>1
 | .tX=>1
 | .lE=>1
 | .hole=>1
def mE:List AV→Nat
 |[]=>0
 |a::l=>AV.bulk a+mE l
def EV:List (List AV)→Nat
 |[]=>0
 |c::l=>mE c+EV l
end
mutual
def AV.wf:AV→Prop
 | .str s=>s.length≤maxLen
 | .aW _ xs=>wfR xs
 | .agg cs=>Nx cs
 | .bool _=>True
 | .int k n=>(Lit.int k n).wf=true
 | .fn _ _=>True
 | .dI cs=>Nx cs
 | .ref _=>True
 | .mp _ _=>True
 | .self _=>True
 | .tX=>True
 | .lE=>True
 | .hole=>True
def Nx:List AV→Prop
 |[]=>True
 |a::l=>AV.wf a∧Nx l
def wfR:List (List AV)→Prop
 |[]=>True
 |c::l=>Nx c∧wfR l
end
theorem FN (a b:List AV):mE (a++b)=mE a+mE b:=by
 induction a with
 |nil=>simp [mE]
 |cons x a ih=>simp only [List.cons_append,mE,ih];omega
theorem Ny {a b:List AV}:Nx (a++b)↔Nx a∧Nx b:=by
 induction a with
 |nil=>simp [Nx]
 |cons x a ih=>simp only [List.cons_append,Nx,ih,and_assoc]
theorem Wj {l:List (List AV)} (h:∀c∈l,Nx c):wfR l:=by
 induction l with
 |nil=>trivial
 |cons c l ih=>exact ⟨h c (by simp),ih fun x hx=>h x (by simp [hx])⟩
structure rF {H:Type} (bk:DataW H→Nat) (NL:List (DataW H)→Nat):Prop where
 str:∀l,bk (.lit (.string l))=l.length+1
 lit:∀l,1≤bk (.lit l)
 nil:1≤bk .nil
 slice:∀e s,bk (.slice e s)=NL e+NL s+1
 agg:∀p,bk (.agg p)=NL p+1
 nilA:NL []=0
 RM:∀d r,NL (d::r)=bk d+NL r
def QY (w:World):Mu:=fun b j=>yS w b j
theorem V1 (w:World):BU (QY w) w:=fun _ _ _ h=>h
section
variable {H:Type} {enc:TypeId×Value→H} {P:Program} {w:World} {bk:DataW H→Nat} {NL:List (DataW H)→Nat}
def Ec (enc:TypeId×Value→H) (P:Program) (w:World) (bk:DataW H→Nat) (n:Nat) (t:TypeId) (Q:List AV→Prop):Prop:=
 ∀cs d ps,DataW.trod enc P w 0 (fun _=>true) true n t cs=some (d,ps)→∃qC,Q qC∧fT (QY w) qC cs∧mE qC≤bk d∧Nx qC
theorem Ec.zero {t:TypeId} {Q:List AV→Prop}:Ec enc P w bk 0 t Q:=fun cs d ps h=>by simp [DataW.trod] at h
theorem Ec.mono {n:Nat} {t:TypeId} {Q Q':List AV→Prop} (h:Ec enc P w bk n t Q) (hq:∀a,Q a→Q' a):Ec enc P w bk n t Q':=fun cs d ps hd=>
 let ⟨a,h1,h2⟩:=h cs d ps hd;⟨a,hq a h1,h2⟩
theorem Na (hB:rF bk NL) {n:Nat} {t:TypeId} {k:IntKind} (ht:P.underlying t=some (.int k)):Ec enc P w bk n t fun qC=>∃x,qC=aD k x:=by
 intro cs d ps h;obtain ⟨x,rfl,hx,hw⟩:=DataW.trod_int ht h;simp only [Prod.mk.injEq] at hx;obtain ⟨rfl,rfl⟩:=hx;refine ⟨aD k x,⟨x,rfl⟩,⟨bI (by simp [rep]) cK,by simp [Value.oneCell']⟩,?_,?_⟩
 ·simp only [aD,mE,AV.bulk];exact hB.lit _
 ·exact ⟨hw,trivial⟩
theorem EB {μ:Mu} {sz b:Nat}:∀{xs:List (List AV)} {off:Nat},(∀i x,xs[i]? =some x→∃vs,fT μ x vs∧vs.length=sz∧∀j u,vs[j]? =some u→μ b (off+i *sz+j)=some u)→fR μ sz b xs off:=by
 intro xs
 induction xs with
 |nil=>intro off _;simp [fR]
 |cons x xs ih=>
  intro off h;rw [fR];obtain ⟨vs,h1,h2,h3⟩:=h 0 x rfl;refine ⟨⟨vs,h1.1,h1.2,h2,fun j u hu=>by have:=h3 j u hu;simpa using this⟩,ih fun i y hy=> ?_⟩;obtain ⟨us,k1,k2,k3⟩:=h (i+1) y (by simpa using hy);refine ⟨us,k1,k2,fun j u hu=> ?_⟩;have:=k3 j u hu
  rwa [show off+(i+1) *sz+j=off+sz+i *sz+j from by rw [Nat.add_mul];omega] at this
theorem RD (hB:rF bk NL):∀(xs:List (List AV)) (ds:List (DataW H)),xs.length=ds.length→(∀(i:Nat) (x:List AV) (d:DataW H),xs[i]? =some x→ds[i]? =some d→mE x≤bk d)→EV xs≤NL ds:=by
 intro xs
 induction xs with
 |nil=>intro ds _ _;simp [EV]
 |cons x xs ih=>
  intro ds hl h;cases ds with
  |nil=>simp at hl
  |cons d ds=>
   rw [hB.RM];have h0:=h 0 x d rfl rfl;have:=ih ds (by simpa using hl) fun i y e hy he=>h (i+1) y e (by simpa using hy) (by simpa using he)
   simp only [EV];omega
theorem Kx (hB:rF bk NL) {n:Nat} {t e:TypeId} {sz:Nat} (ht:P.underlying t=some (.slice e)) (hc:P.cellsOf e=sz) (hpos:0<sz) {Q:List AV→Prop} (he:Ec enc P w bk n e Q):
  Ec enc P w bk (n+1) t fun qC=>∃xs,qC=[.aW sz xs]∧∀x∈xs,Q x:=by
 intro cs d ps h;rcases DataW.trod_slice ht h with ⟨rfl,hx⟩|⟨a,len,cap,elems,rest,n',hn,rfl,hx,hb,hl,hm,hlen,hel,_,_⟩
 ·simp only [Prod.mk.injEq] at hx
  obtain ⟨rfl,rfl⟩:=hx;refine ⟨[.aW sz []],⟨[],rfl,by simp⟩,⟨bI ?_ cK,by simp [Value.oneCell']⟩,?_,?_⟩
  ·rw [rep];exact ⟨none,0,rfl,Nat.le_refl _,by simp [maxLen], .inl rfl⟩
  ·simp only [mE,AV.bulk,EV];exact hB.nil
  ·simp [Nx,AV.wf,wfR]
 ·obtain rfl:n=n':=by omega
  simp only [Prod.mk.injEq] at hx;obtain ⟨rfl,rfl⟩:=hx;have each:∀i,i<len→∃av:List AV,Q av∧∃cs',w.cells? 0 (a.add (i *sz)) sz=some cs'∧fT (QY w) av cs'∧(∀x,elems[i]? =some x→mE av≤bk x.1)∧Nx av:=by
   intro i hi;have h1:=hel i hi;rw [hc] at h1;obtain ⟨x,hx⟩:∃x,elems[i]? =some x:=⟨elems[i]'(by omega),List.getElem?_eq_getElem (by omega)⟩
   rw [hx] at h1;obtain ⟨cs',h2,h3⟩:=Option.bind_eq_some_iff.1 h1;obtain ⟨av,k1,k2,k3,k4⟩:=he cs' x.1 x.2 h3;exact ⟨av,k1,cs',h2,k2,fun y hy=>by rw [hx] at hy;injection hy with hy;subst hy;exact k3,k4⟩
  obtain ⟨f,hf⟩:=Deep.choose_lt each;have lD:∀i x,((List.range len).map f)[i]? =some x→i<len∧x=f i:=by
   intro i x hx;simp only [List.getElem?_map,Option.map_eq_some_iff] at hx;obtain ⟨j,hj,rfl⟩:=hx;obtain ⟨h1,h2⟩:=List.getElem?_eq_some_iff.1 hj;simp at h1 h2;subst h2;exact ⟨h1,rfl⟩
  have hmem:∀x∈(List.range len).map f,∃i,i<len∧x=f i:=by
   intro x hx;simp only [List.mem_map,List.mem_range] at hx;obtain ⟨i,hi,rfl⟩:=hx;exact ⟨i,hi,rfl⟩
  refine ⟨[.aW sz ((List.range len).map f)],⟨_,rfl,fun x hx=> ?_⟩,⟨bI ?_ cK,by simp [Value.oneCell']⟩,?_,?_⟩
  ·obtain ⟨i,hi,rfl⟩:=hmem x hx;exact (hf i hi).1
  ·rw [rep]
   refine ⟨some a,cap,by simp,by simpa using hl,hm,?_⟩;cases len with
   |zero=>exact .inl (by simp)
   |succ len=>
    right
    have WL:a.spot=none:=by
     obtain ⟨_,cs',h2,_⟩:=hf 0 (by omega);simp only [World.cells?,Nat.zero_le,if_true] at h2;have h3:=mapM_some_get h2 0 0 (by simp [hpos]);have h4:cs'[0]? ≠none:=by
      have:=mapM_some_length h2;simp at this;intro hnone;rw [List.getElem?_eq_none_iff] at hnone;omega
     rw [←h3] at h4;simp only [Addr.add,Nat.zero_mul,if_true] at h4;cases hsp:a.spot with
     |none=>rfl
     |some q=>
      exfalso;apply h4;simp only [World.cell?,hsp];split<;>simp
    obtain ⟨b,off,sp⟩:=a;simp only at WL;subst WL;refine ⟨b,off,rfl,EB fun i x hx=> ?_⟩;obtain ⟨hi,rfl⟩:=lD i x hx;obtain ⟨_,cs',h2,k2,_⟩:=hf i hi;simp only [World.cells?,Nat.zero_le,if_true] at h2;refine ⟨cs',k2,by simpa using mapM_some_length h2,fun j u hu=> ?_⟩;have hj:j<sz:=by
     have:=mapM_some_length h2;simp at this;have:=(List.getElem?_eq_some_iff.1 hu).1;omega
    have h3:=mapM_some_get h2 j j (by simp [hj]);rw [hu,Deep.add_add] at h3;unfold QY;have e:(⟨b,off,none⟩:Addr).add (i *sz+j)=⟨b,off+i *sz+j,none⟩:=by
     unfold Addr.add;split
     ·rename_i h0;rw [Nat.add_assoc,h0];rfl
     ·simp [Nat.add_assoc]
    rw [e] at h3;exact n9 h3 (k2.2 u (List.mem_of_getElem? hu))
  ·simp only [mE,AV.bulk,hB.slice]
   have:=RD hB ((List.range len).map f) (elems.map (·.1)) (by simp [hlen]) fun i x d hx hd=>by
    obtain ⟨hi,rfl⟩:=lD i x hx;simp only [List.getElem?_map,Option.map_eq_some_iff] at hd;obtain ⟨y,hy,rfl⟩:=hd;obtain ⟨_,_,_,_,k,_⟩:=hf i hi;exact k y hy
   omega
  ·refine ⟨Wj fun x hx=> ?_,trivial⟩
   obtain ⟨i,hi,rfl⟩:=hmem x hx;obtain ⟨_,_,_,_,_,k⟩:=hf i hi;exact k
def Cat:List (List AV→Prop)→List AV→Prop
 |[],qC=>qC=[]
 |Q::Qs,qC=>∃a b,qC=a++b∧Q a∧Cat Qs b
def GA (P:Program):Nat→List Field→Bool
 |_,[]=>true
 |off,f::l=>Nat.beq f.offset off&&GA P (off+P.cellsOf f.type) l
def Np (P:Program):List Field→Nat
 |[]=>0
 |f::l=>P.cellsOf f.type+Np P l
def Re (enc:TypeId×Value→H) (P:Program) (w:World) (bk:DataW H→Nat) (n:Nat):List Field→List (List AV→Prop)→Prop
 |[],[]=>True
 |f::l,Q::Qs=>Ec enc P w bk n f.type Q∧Re enc P w bk n l Qs
 |_,_=>False
theorem Qg (hB:rF bk NL) {n:Nat} {cs:List Value}:∀(fl:List Field) (Qs:List (List AV→Prop)) (xs:List (DataW H×List MemPlace)) (off:Nat),Re enc P w bk n fl Qs→GA P off fl=true→xs.length=fl.length→off+Np P fl≤cs.length→
  (∀(i:Nat) (f:Field),fl[i]? =some f→DataW.trod enc P w 0 (fun _=>true) true n f.type ((cs.drop f.offset).take (P.cellsOf f.type))=xs[i]?)→
  ∃qC,Cat Qs qC∧fT (QY w) qC ((cs.drop off).take (Np P fl))∧mE qC≤NL (xs.map (·.1))∧Nx qC:=by
 intro fl
 induction fl with
 |nil=>
  intro Qs xs off hQ _ hl _ _;cases Qs with
  |nil=>exact ⟨[],rfl,⟨by simp [Np,br],by simp [Np]⟩,by simp [mE],trivial⟩
  |cons Q Qs=>exact hQ.elim
 |cons f fl ih=>
  intro Qs xs off hQ ho hl hle hx;cases Qs with
  |nil=>exact hQ.elim
  |cons Q Qs=>
   cases xs with
   |nil=>simp at hl
   |cons x xs=>
    simp only [GA,Bool.and_eq_true] at ho;have hoff:=beq_iff.1 ho.1;simp only [Np] at hle⊢;have h0:=hx 0 f rfl;rw [hoff] at h0;obtain ⟨a0,q0,r0,b0,w0⟩:=hQ.1 _ x.1 x.2 h0;obtain ⟨a1,q1,r1,b1,w1⟩:=ih Qs xs (off+P.cellsOf f.type) hQ.2 ho.2 (by simpa using hl) (by omega) fun i g hg=>hx (i+1) g (by simpa using hg)
    refine ⟨a0++a1,⟨a0,a1,rfl,q0,q1⟩,?_,?_,Ny.2 ⟨w0,w1⟩⟩
    ·rw [List.take_add,List.drop_drop]
     exact r0.append r1
    ·rw [FN,List.map_cons,hB.RM];omega
theorem zS (hB:rF bk NL) {n:Nat} {t:TypeId} {fs:Array Field} {Qs:List (List AV→Prop)} (ht:P.underlying t=some (.struct fs)) (ho:GA P 0 fs.toList=true) (hs:Np P fs.toList=P.cellsOf t)
  (hQ:Re enc P w bk n fs.toList Qs):Ec enc P w bk (n+1) t (Cat Qs):=by
 intro cs d ps h;obtain ⟨xs,n',hn,hx,hl,hxl,hall⟩:=DataW.trod_struct ht h;obtain rfl:n=n':=by omega
 simp only [Prod.mk.injEq] at hx;obtain ⟨rfl,rfl⟩:=hx;obtain ⟨qC,q,r,b,wf⟩:=Qg hB fs.toList Qs xs 0 hQ ho (by simpa using hxl) (by omega) fun i f hf=>hall i f (by simpa using hf)
 refine ⟨qC,q,?_,by rw [hB.agg];omega,wf⟩;rw [hs,←hl] at r;simpa using r
theorem UM {t:TypeId} {fs:Array Field} {v:Value} {d:DataW H} {ps:List MemPlace} {Q:List AV→Prop} {Ug:Reach} {base:Nat} (ht:P.underlying t=some (.struct fs)) (hok:Value.okWide P w Ug base t v)
  (hd:DataW.Trod enc P w 0 (fun _=>true) true t v d ps) (hR:∀n,Ec enc P w bk n t Q):∃qC,Q qC∧rep (QY w) (.agg qC) v∧mE qC≤bk d∧Nx qC:=by
 obtain ⟨cs,rfl,_⟩:=WideShapes.okWide_struct ht hok;obtain ⟨n,hn⟩:=hd;obtain ⟨qC,q,r,b,wf⟩:=hR n _ _ _ hn;refine ⟨qC,q,?_,b,wf⟩;rw [rep];exact ⟨cs.toList,by simp,by simpa [Value.cells] using r.1,by simpa [Value.cells] using r.2⟩
end
theorem PU {P:Program} {H:Nat→Hint} {dg:cL} {q:Qp} {B:Mu} (hok:wR P=true) (hblk:∀f fn c,P.funcs[f]? =some fn→fn.body=some c→iP q B P (H f) fn.ntmps c) (jq:dL q B P dg) {f:Nat} {qC:List AV} {us:List Value} {W:World} (hB:B.le (QY W)) (sK:br (QY W) qC us)
  (hrun:run P H dg f (qC.map .pv) []=some (.bool true,[])):Calls P f us.toArray W fun e W'=>e= .returned (.bool true)∧Below W.heap.size W W':=by
 have hs:∀{qC:List AV} {us:List Value},br (QY W) qC us→eM (QY W) (fun _=> .bool false) (qC.map .pv) us:=by
  intro qC
  induction qC with
  |nil=>intro us h;rw [br] at h;subst h;rfl
  |cons a l ih=>intro us h;rw [br] at h;obtain ⟨u,us',rfl,h1,h2⟩:=h;exact ⟨u,us',rfl,h1,ih h2⟩
 have:=(dL.Zv (zX hok hblk jq f _ [] _ [] hrun W (QY W) (fun _=> .bool false) us hB (V1 W) (fun id o h=>by cases h) (fun i j oi oj h=>by cases h) (hs sK)) fun xs=>by simp [find]).2;refine this.mono ?_
 rintro e W' ⟨v,μ',loc',rfl,hp⟩
 have hv:=hp.pure rfl;rw [rep] at hv;subst hv;exact ⟨rfl,xI hp⟩
theorem vX {Hh:Type} {enc:TypeId×Value→Hh} {P:Program} (hl:laidOutB P=true) {W W':World} (hb:Below W.heap.size W W'):∀{ts:List TypeId} {vs:List Value} {ds:List (DataW Hh)} {ps:List MemPlace},(∀t∈ts,P.readableRec t=true∧t<P.types.size)→
  (∀x∈ps,x.block<W.heap.size)→DataW.TrodAll enc P W 0 (fun _=>true) true ts vs ds ps→DataW.TrodAll enc P W' 0 (fun b=>decide (b<W.heap.size)) true ts vs ds ps
 |[],[],[],_,_,_,h=>h
 |[],[],_::_,_,_,_,h=>h.elim
 |[],_::_,_,_,_,_,h=>by cases h
 |_::_,[],_,_,_,_,h=>by cases h
 |_::_,_::_,[],_,_,_,h=>h.elim
 |t::ts,v::vs,d::ds,ps,hr,hlt,h=>by
  obtain ⟨p,q,h1,h2,rfl⟩:=h;exact ⟨p,q,Below.trod hl (hr t (by simp)).1 (hr t (by simp)).2 h1 hb (fun x hx=>hlt x (by simp [hx])),vX hl hb (fun t ht=>hr t (by simp [ht])) (fun x hx=>hlt x (by simp [hx])) h2,rfl⟩
theorem uW {Hh:Type} {enc:TypeId×Value→Hh} {P:Program} {W:World}:∀{ts:List TypeId} {vs:List Value} {ds:List (DataW Hh)} {ps:List MemPlace},DataW.TrodAll enc P W 0 (fun _=>true) true ts vs ds ps→ds.length=ts.length
 |[],[],[],_,_=>rfl
 |[],[],_::_,_,h=>h.elim
 |[],_::_,_,_,h=>by cases h
 |_::_,[],_,_,h=>by cases h
 |_::_,_::_,[],_,h=>h.elim
 |t::ts,v::vs,d::ds,ps,h=>by
  obtain ⟨p,q,h1,h2,rfl⟩:=h;simp [uW h2]
theorem Qb {Hh:Type} {enc:TypeId×Value→Hh} {P:Program} {fn:Func} {s:ChangeSpec} {tb:TypeId} {W W':World} {args:Array Value} {ds gs:List (DataW Hh)} {before:List MemPlace} {apart fresh handsOn:Bool}
  (hl:laidOutB P=true) (hpar:fn.params.toList.all (fun t=>P.readableRec t&&decide (t<P.types.size))=true) (hvars:s.vars=[]) (hres:fn.resultTypes= #[tb]) (htb:P.underlying tb=some .bool)
  (hfn:∀ds:List (DataW Hh),ds.length=fn.params.size→s.fn Hh ds={ results:=[.lit (.bool true)],args:=ds })
  (hW:DataW.Whole enc P fn.params.toList s.vars apart W args.toList ds gs before) (hb:Below W.heap.size W W'):
  s.post enc P fn apart fresh handsOn false W args (.bool true) W':=by
 have hlt:=hW.lt;have hW':=hW;obtain ⟨p,q,hA,hV,rfl,_,_⟩:=hW;rw [hvars] at hV;obtain ⟨rfl,rfl⟩:gs=[]∧q=[]:=by
  cases gs with
  |nil=>exact ⟨rfl,hV⟩
  |cons g gs=>exact hV.elim
 have hlen:=uW hA;have e:=hfn ds (by rw [hlen,Array.length_toList]);refine ⟨ds,[],p++[],[],p,[],hW',?_,?_,?_,hb.frame _,fun h=>by cases h⟩
 ·rw [List.append_nil,e,hres]
  exact trodAll_cons_mk (shut_bool htb _) trodAll_mk0
 ·rw [List.append_nil,e]
  refine vX hl hb (fun t ht=> ?_) (fun x hx=>hlt x (by simp [hx])) hA;have:=List.all_eq_true.1 hpar t ht;simp only [Bool.and_eq_true,decide_eq_true_eq] at this;exact this
 ·rw [List.append_nil,e,hvars]
  rfl
end Go.AM
set_option linter.unusedVariables false
set_option linter.unusedSimpArgs false
namespace Go.Proofs.YthppjmoncapdfaaGreatDoor.cl
open Go Go.AM Go.RowKit
theorem Fs {μ:Mu} {loc:Nat→Value} {w w':World} {e sz g n cap:Nat} {ys:List (List AV)} {us:List Value} {cur cur':Array Value}
  (dQ:BU μ w) (iB:loc 10000= .slice (some ⟨g,0,none⟩) n cap) (hcap:n≤cap) (Sh:cap≤maxLen) (hsize:cur.size=cap *sz) (hown:zN w.heap.size (fL False loc [10000]) 10000 g) (oc:∀j,μ g j=none)
  (hg:w'.heap[g]? =some (.cells cur' e (0,0))) (hs:cur'.size=cur.size) (lI:cur'.toList.take (n *sz)=us) (uw:us.length=n *sz) (L0:∀b,b<w.heap.size→b≠g→w'.heap[b]? =w.heap[b]?)
  (hos:w'.os=w.os) (ht:w'.tape=w.tape) (hout:w'.output=w.output) (WB:w.heap.size≤w'.heap.size) (Zr:ys.length=n) (hrc:bZ μ sz ys us):
  dM False μ loc [10000] (.dI []) [(10000, .row e sz ys)] w (.tuple #[]) μ loc w' where
 ext:=⟨Mu.le.refl _,fun _ _ _ h=> .inl h⟩
 oZ:=fun b j x hx=>by
  have h:=dQ b j x hx;have hne:b≠g:=fun e=>by subst e;rw [oc j] at hx;cases hx
  rw [dK (L0 b (gW h) hne) j];exact h
 res:= .inl (by rw [rep.eq_def];exact ⟨[],rfl,rfl⟩)
 obs:=fun id o h=>by
  have hid:=gI h;subst hid;have ho:Ob.row e sz ys=o:=by simpa [find] using h
  subst ho;refine ⟨us,⟨by rw [uw,Zr], .inr ⟨g,cap,cur',by rw [iB,Zr],Nat.zero_le _,hg,by rw [Zr];exact hcap,Sh,by rw [hs,hsize],by rw [Zr];exact lI⟩⟩,hrc,fun q hq=> ?_⟩;have:q=g:=by
   rw [iB] at hq;have h2:some g=some q:=eG.1 hq;exact (Option.some.inj h2).symm
  subst this;exact ⟨hown,oc⟩
 apart:=fun i j oi oj hi hj hij=>absurd ((gI hi).trans (gI hj).symm) hij
 keep:=fun b hlt hl=>L0 b hlt (fun e=>by
  subst e
  exact hl ⟨10000,loc 10000,by simp [fL],by rw [iB];exact eG.2 rfl⟩)
 fix:=fun _ _ _=>rfl
 os:=hos
 tape:=ht
 output:=hout
 grown:=WB
 drawn:=fun h=>h.elim
end Go.Proofs.YthppjmoncapdfaaGreatDoor.cl
set_option linter.unusedVariables false
set_option linter.unusedSimpArgs false
namespace Go.Proofs.YthppjmoncapdfaaGreatDoor.cl
open Go Go.AM Go.RowKit
theorem uV {α:Type} {lt:α→α→Bool}:∀{l l':List α},l.Perm l'→mH lt l→mH lt l'→(∀x∈l,∀y∈l,lt x y=false→lt y x=false→x=y)→l=l':=by
 intro l
 induction l with
 |nil=>intro l' h _ _ _;exact (List.nil_perm.1 h).symm
 |cons x l ih=>
  intro l' h h1 h2 h3;cases l' with
  |nil=>exact absurd h.symm (by simp)
  |cons y l'=>
   have Px:=List.pairwise_cons.1 h1;have QT:=List.pairwise_cons.1 h2;have hxy:x=y:=by
    have hy:y∈x::l:=h.mem_iff.2 (by simp);have hx:x∈y::l':=h.mem_iff.1 (by simp);rcases List.mem_cons.1 hy with e|hy'
    ·exact e.symm
    ·rcases List.mem_cons.1 hx with e|hx'
     ·exact e
     ·exact h3 x (by simp) y hy (QT.1 x hx') (Px.1 y hy')
   subst hxy;rw [ih (List.Perm.cons_inv h) Px.2 QT.2 fun a ha b hb=>h3 a (by simp [ha]) b (by simp [hb])]
theorem nT {α:Type} (lt:α→α→Bool) (asymm:∀a b,lt a b=true→lt b a=false) (up:∀x y z,lt x y=true→lt z y=false→lt x z=true) (l:List α):mH lt (gZ lt l)∧(gZ lt l).Perm l:=by
 have ins:∀(x:α) (l:List α),(wD lt x l).Perm (x::l):=by
  intro x l
  induction l with
  |nil=>exact .refl _
  |cons y l ih=>
   unfold wD;split
   ·exact .refl _
   ·exact (ih.cons y).trans (.swap x y l)
 have key:∀(l E:List α),mH lt E→mH lt (l.foldl (fun out x=>wD lt x out) E)∧(l.foldl (fun out x=>wD lt x out) E).Perm (E++l):=by
  intro l
  induction l with
  |nil=>intro E hE;exact ⟨hE,by simp⟩
  |cons p l ih=>
   intro E hE;obtain ⟨h1,h2⟩:=ih _ (JU lt asymm up hE (x:=p));refine ⟨h1,h2.trans ?_⟩;exact ((ins p E).append_right l).trans (List.perm_middle (a:=p) (l₁:=E) (l₂:=l)).symm
 have:=key l [] (by simp [mH]);simpa [gZ] using this
theorem yY (x y z:List UInt8) (h:Op.bytesLess x y=true) (h':Op.bytesLess z y=false):Op.bytesLess x z=true:=by
 by_cases e:z=y
 ·rw [e];exact h
 ·exact I6 _ _ _ h (Cc _ _ h' e)
end Go.Proofs.YthppjmoncapdfaaGreatDoor.cl
set_option linter.unusedVariables false
set_option linter.unusedSimpArgs false
namespace Go.Proofs.YthppjmoncapdfaaGreatDoor.cl
open Go Go.AM Go.RowKit
theorem Ka (l:List (List UInt8)):(l.mergeSort fun x y=>decide (x≤y))=gZ Op.bytesLess l:=by
 have e:(fun x y:List UInt8=>decide (x≤y))=fun x y=> !Op.bytesLess y x:=by
  funext x y
  rw [bytesLess_eq];by_cases h:y<x
  ·have:¬x≤y:=fun h'=>h' h
   simp [h,this]
  ·have:x≤y:=h
   simp [h,this]
 rw [e];obtain ⟨s1,s2⟩:=nT Op.bytesLess (fun a b h=>rK h) yY l;refine uV ((List.mergeSort_perm l _).trans s2.symm) ?_ s1 ?_
 ·have:=List.pairwise_mergeSort (le:=fun x y:List UInt8=> !Op.bytesLess y x) (fun a b c h1 h2=>by
   simp only [Bool.not_eq_true'] at h1 h2⊢;cases hc:Op.bytesLess c a with
   |false=>rfl
   |true=>
    have:=yY _ _ _ hc h1
    rw [h2] at this;cases this) (fun a b=>by
   cases hc:Op.bytesLess b a with
   |false=>simp
   |true=>simp [rK hc]) l
  refine this.imp ?_;intro a b h;simpa using h
 ·intro x _ y _ h1 h2
  apply Classical.byContradiction;intro hne;have:=Cc _ _ h1 hne;rw [h2] at this;cases this
open Go.Sort in
theorem CE {α:Type} [Inhabited α] {enc:α→Value} {w:World} {n g:Nat} {d:Array α} {os:Array Obj} {cur:Array Value} {e:TypeId} (hg:w.heap[g]? =some (.cells cur e (0,0))):
  (grow (putRow enc (Sort.ahead w n) g 0 d) os).heap[g]? =some (.cells (putCells enc 0 d cur) e (0,0))∧(∀b,b<w.heap.size→b≠g→(grow (putRow enc (Sort.ahead w n) g 0 d) os).heap[b]? =w.heap[b]?)∧w.heap.size≤(grow (putRow enc (Sort.ahead w n) g 0 d) os).heap.size:=by
 have hlt:g<w.heap.size:=(Array.getElem?_eq_some_iff.1 hg).1;have hh:(grow (putRow enc (Sort.ahead w n) g 0 d) os).heap=w.heap.modify g (onCells (putCells enc 0 d))++os:=rfl;rw [hh];refine ⟨?_,fun b hb hne=> ?_,?_⟩
 ·rw [Array.getElem?_append_left (by simpa using hlt),Array.getElem?_modify,if_pos rfl,hg];rfl
 ·rw [Array.getElem?_append_left (by simpa using hb),Array.getElem?_modify,if_neg (fun h=>hne h.symm)]
 ·simp
open Go.Sort in
theorem KS {α:Type} [Inhabited α] {enc:α→Value} {l:List α} {cur:Array Value} (h:l.length≤cur.size):(putCells enc 0 l.toArray cur).size=cur.size∧(putCells enc 0 l.toArray cur).toList.take l.length=l.map enc:=by
 refine ⟨by simp [putCells],?_⟩;apply List.ext_getElem?;intro i;by_cases hi:i<l.length
 ·rw [List.getElem?_take,if_pos hi,List.getElem?_map,List.getElem?_eq_getElem hi]
  have hc:i<cur.size:=by omega
  simp [putCells,hi,hc,List.getElem?_eq_getElem hi]
 ·rw [List.getElem?_eq_none (by simp;omega),List.getElem?_eq_none (by simp;omega)]
theorem vV {μ:Mu}:∀{l:List (List UInt8)} {vs:List Value},bZ μ 1 (l.map eX) vs↔vs=l.map encStr:=by
 intro l
 induction l with
 |nil=>intro vs;exact Iff.rfl
 |cons s l ih=>
  intro vs;constructor
  ·rintro ⟨us,ws,rfl,hu,_,hw⟩
   have Ux:=hu.1;simp only [eX,br] at Ux;obtain ⟨u,us',rfl,hr,rfl⟩:=Ux;rw [rep] at hr;subst hr;rw [ih.1 hw];rfl
  ·rintro rfl
   exact ⟨[encStr s],l.map encStr,rfl,⟨⟨_,_,rfl,by rw [rep],rfl⟩,fun u hu=>by
    simp only [List.mem_singleton] at hu;subst hu;rfl⟩,rfl,ih.2 rfl⟩
theorem Fp {μ:Mu} {loc:Nat→Value} {w:World} {o:Ob} (dQ:BU μ w) (cu:ig w.heap.size (fL False loc [10000]) μ loc w 10000 o):dM False μ loc [10000] (.dI []) [(10000,o)] w (.tuple #[]) μ loc w where
 ext:=⟨Mu.le.refl _,fun _ _ _ h=> .inl h⟩
 oZ:=dQ
 res:= .inl (by rw [rep.eq_def];exact ⟨[],rfl,rfl⟩)
 obs:=fun id o' h=>by
  have hid:=gI h;subst hid;have ho:o=o':=by simpa [find] using h
  subst ho;exact cu
 apart:=fun i j oi oj hi hj hij=>absurd ((gI hi).trans (gI hj).symm) hij
 keep:=fun _ _ _=>rfl
 fix:=fun _ _ _=>rfl
 os:=rfl
 tape:=rfl
 output:=rfl
 grown:=Nat.le_refl _
 drawn:=fun h=>h.elim
theorem Y7 {μ:Mu} {loc:Nat→Value} {w:World} {l:List (List UInt8)} (hlen:l.length≤1073741824) (dQ:BU μ w) (cu:ig w.heap.size (fL False loc [10000]) μ loc w 10000 (.row 9 1 (l.map eX))):
  Calls P 180 #[loc 10000] w fun e w'=>∃v μ' loc',e= .returned v∧dM False μ loc [10000] (.dI []) [(10000, .row 9 1 ((gZ Op.bytesLess l).map eX))] w v μ' loc' w':=by
 have qE:=cu;obtain ⟨vs,hown,hrc,rC⟩:=qE;have hvs:=vV.1 hrc;rcases hown.2 with ⟨e1,h0⟩|⟨g,cap,cur,e1,_,hg,hcap,Sh,hsz,rN⟩
 ·have hl:l=[]:=by
   cases l with
   |nil=>rfl
   |cons a b=>simp at h0
  subst hl;have hc:Calls P 180 #[.slice none 0 0] w fun e w'=>e= .returned (.tuple #[])∧w'=w:=Any.slices_Sort_string_none Tryz.lays190 none 0 w
  rw [e1];refine hc.mono ?_
  rintro e w' ⟨rfl,rfl⟩
  exact ⟨_,μ,loc,rfl,Fp dQ cu⟩
 ·have Sg:(l.map eX).length=l.length:=by simp
  rw [Sg] at e1 hcap rN;rw [Nat.mul_one] at hsz rN;rw [hvs] at rN;have hin:fE (loc 10000) g:=by rw [e1];exact eG.2 rfl
  obtain ⟨Sk,oc⟩:=rC g hin;have hlt:g<w.heap.size:=(Array.getElem?_eq_some_iff.1 hg).1;have hcell:∀(j:Nat) (hj:j<l.length),cur[j]? =some (encStr l[j]):=by
   intro j hj;have h1:(cur.toList.take l.length)[j]? =some (encStr l[j]):=by
    rw [rN,List.getElem?_map,List.getElem?_eq_getElem hj];rfl
   rw [List.getElem?_take,if_pos hj] at h1;simpa using h1
  have hH:Go.Sort.Holds encStr w g 0 l.toArray:=by
   intro j hj;have hj':j<l.length:=by simpa using hj
   have hcj:=hcell j hj';rw [Nat.zero_add];refine ⟨?_,?_⟩
   ·unfold World.cell?
    simp only [hg];simp [hcj,hj']
   ·unfold World.frozen?
    simp [hg]
  have hc:Calls P 180 #[.slice (some ⟨g,0,none⟩) l.length cap] w fun e w'=>e= .returned (.tuple #[])∧∃n os,w'=Go.Sort.grow (Go.Sort.putRow encStr (Go.Sort.ahead w n) g 0 (l.mergeSort fun x y=>decide (x≤y)).toArray) os:=Any.slices_Sort_string Tryz.lays190 g 0 cap l w hH hlt (by omega)
  rw [e1];refine hc.mono ?_
  rintro e w' ⟨rfl,n,os,rfl⟩
  rw [Ka];have vh:(gZ Op.bytesLess l).length=l.length:=(nT Op.bytesLess (fun a b h=>rK h) yY l).2.length_eq;obtain ⟨k1,k2,k3⟩:=CE (enc:=encStr) (n:=n) (d:=(gZ Op.bytesLess l).toArray) (os:=os) hg;obtain ⟨t1,t2⟩:=KS (enc:=encStr) (l:=gZ Op.bytesLess l) (cur:=cur) (by omega);refine ⟨_,μ,loc,rfl,Fs (cur:=cur) (us:=(gZ Op.bytesLess l).map encStr) dQ e1 hcap Sh (by rw [Nat.mul_one];exact hsz) Sk oc k1 t1 (by rw [Nat.mul_one,←vh];exact t2) (by simp [vh]) k2 rfl rfl rfl k3 (by simp [vh]) (vV.2 rfl)⟩
end Go.Proofs.YthppjmoncapdfaaGreatDoor.cl
