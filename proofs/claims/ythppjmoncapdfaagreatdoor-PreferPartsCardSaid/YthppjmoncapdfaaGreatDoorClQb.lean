/- DERIVED. -/
import Derived.Shelf.Strings.OnBuilder
import Derived.Shelf.Sort.Plain
import Derived.Shelf.Slices.In.SortNone
import Derived.Shelf.SlSortCmp.WholeK
import Derived.Shelf.SlSortCmp.NoneTotal
import Derived.Shelf.Spec.TrailingZeros
import Derived.Ground.Names2Prog
import Derived.Ground.SlsfProg
import Derived.Ground.Names7Prog
import Derived.Test.YthppjmoncapdfaaGreatDoorProg
import Derived.Test.YthppjmoncapdfaaGreatDoorAmI
import Derived.Deep.Slices
import Derived.OpenShut
import Derived.Carry
import Derived.ProofKit
import Derived.Test.YthppjmoncapdfaaGreatDoorClT
set_option linter.all false
namespace Go.Proofs
open Go.Shelf
def Tryz.Ab:Go.Shelf.Ren:=⟨λ|156=>128|165=>187|166=>188|169=>189|240=>238|241=>239|276=>278|277=>279|n=>n,λ|31=>87|9=>9|3=>3|4=>4|0=>0|20=>20|72=>227|76=>230|70=>224|37=>225|75=>229|127=>266|164=>296|5=>5|80=>232|n=>n,λ|n=>n⟩
def Tryz.lays156:Go.Proofs.Lays.n156 Tryz.prog Tryz.Ab:={
 mixed:=by kernel_rfl
 f156:=Tryz.func128.trans (aC some (by kernel_rfl))
 f165:=Tryz.func187.trans (aC some (by kernel_rfl))
 f166:=Tryz.func188.trans (aC some (by kernel_rfl))
 f169:=Tryz.func189.trans (aC some (by kernel_rfl))
 f240:=Tryz.func238.trans (aC some (by kernel_rfl))
 f241:=Tryz.func239.trans (aC some (by kernel_rfl))
 f276:=Tryz.func278.trans (aC some (by kernel_rfl))
 f277:=Tryz.func279.trans (aC some (by kernel_rfl))
 t0:=Tryz.underlying0
 a0:=Tryz.isAgg0
 z0:=Tryz.sizeOf0
 v0:=Tryz.zeroValue0
 t3:=Tryz.underlying3
 a3:=Tryz.isAgg3
 z3:=Tryz.sizeOf3
 v3:=Tryz.zeroValue3
 t4:=Tryz.underlying4
 a4:=Tryz.isAgg4
 z4:=Tryz.sizeOf4
 v4:=Tryz.zeroValue4
 t9:=Tryz.underlying9
 a9:=Tryz.isAgg9
 z9:=Tryz.sizeOf9
 v9:=Tryz.zeroValue9
 t20:=Tryz.underlying20
 a20:=Tryz.isAgg20
 z20:=Tryz.sizeOf20
 v20:=Tryz.zeroValue20
 t31:=Tryz.underlying87
 a31:=Tryz.isAgg87
 z31:=Tryz.sizeOf87
 v31:=Tryz.zeroValue87
 t37:=Tryz.underlying225
 a37:=Tryz.isAgg225
 z37:=Tryz.sizeOf225
 v37:=Tryz.zeroValue225
 t70:=Tryz.underlying224
 a70:=Tryz.isAgg224
 z70:=Tryz.sizeOf224
 v70:=Tryz.zeroValue224
 t72:=Tryz.underlying227
 a72:=Tryz.isAgg227
 z72:=Tryz.sizeOf227
 v72:=Tryz.zeroValue227
 t75:=Tryz.underlying229
 a75:=Tryz.isAgg229
 z75:=Tryz.sizeOf229
 v75:=Tryz.zeroValue229
 t76:=Tryz.underlying230
 a76:=Tryz.isAgg230
 z76:=Tryz.sizeOf230
 v76:=Tryz.zeroValue230
 t127:=Tryz.underlying266
 a127:=Tryz.isAgg266
 z127:=Tryz.sizeOf266
 v127:=Tryz.zeroValue266
 t164:=Tryz.underlying296
 a164:=Tryz.isAgg296
 z164:=Tryz.sizeOf296
 v164:=Tryz.zeroValue296 }
def Tryz.qU:Builder.Extra Tryz.prog Tryz.Ab:={
 sizeBuilder:=by kernel_rfl
 liesBuilder:=by kernel_rfl
 t5:=Tryz.underlying5
 a5:=Tryz.isAgg5
 z5:=Tryz.sizeOf5
 v5:=Tryz.zeroValue5
 infoByte:=by kernel_rfl
 cellsByte:=by kernel_rfl
 sizeByte:=by kernel_rfl
 neB5:=by decide }
open Go.RowKit in
def Tryz.strings_Join_none (a:Option Addr) (c:Nat) (l:ByteArray) (w:World):
  Calls Tryz.prog 128 #[.slice a 0 c, .string l] w λe q=>e= .returned (.string ⟨#[]⟩)/\q=w:=Any.strings_Join_none Tryz.lays156 Tryz.qU a c l w
open Go.RowKit in
def Tryz.strings_Join (bk o c:Nat) (xs:List ByteArray) (q:ByteArray) (w:World) (l:∀(j:Nat) x,xs[j]? =some x->w.cell? ⟨bk,o+j,none⟩=some (.string x)) (D:bk<w.heap.size) (F:xs.length<=140737488355328) (z:xs.length<=c) (B:(Lib.join (xs.map (·.data.toList)) q.data.toList).length<=140737488355328):
  Calls Tryz.prog 128 #[.slice (some ⟨bk,o,none⟩) xs.length c, .string q] w λe G=>e= .returned (.string ⟨(Lib.join (xs.map (·.data.toList)) q.data.toList).toArray⟩)/\Below w.heap.size w G:=Any.strings_Join Tryz.lays156 Tryz.qU bk o c xs q w l D F z B
def Tryz.HN:Go.Shelf.Ren:=⟨λ|190=>180|125=>197|258=>235|128=>251|129=>252|302=>270|303=>271|304=>272|305=>273|306=>274|307=>275|308=>236|309=>276|310=>277|333=>297|329=>281|330=>282|334=>298|335=>299|336=>200|344=>306|n=>n,λ|31=>87|9=>9|3=>3|46=>240|0=>0|51=>278|53=>164|4=>4|183=>272|182=>271|131=>79|5=>5|218=>299|222=>303|228=>314|229=>315|n=>n,λ|n=>n⟩
def Tryz.lays190:Go.Proofs.Lays.n190 Tryz.prog Tryz.HN:={
 mixed:=by kernel_rfl
 f125:=Tryz.func197.trans (aC some (by kernel_rfl))
 f128:=Tryz.func251.trans (aC some (by kernel_rfl))
 f129:=Tryz.func252.trans (aC some (by kernel_rfl))
 f190:=Tryz.func180.trans (aC some (by kernel_rfl))
 f258:=Tryz.func235.trans (aC some (by kernel_rfl))
 f302:=Tryz.func270.trans (aC some (by kernel_rfl))
 f303:=Tryz.func271.trans (aC some (by kernel_rfl))
 f304:=Tryz.func272.trans (aC some (by kernel_rfl))
 f305:=Tryz.func273.trans (aC some (by kernel_rfl))
 f306:=Tryz.func274.trans (aC some (by kernel_rfl))
 f307:=Tryz.func275.trans (aC some (by kernel_rfl))
 f308:=Tryz.func236.trans (aC some (by kernel_rfl))
 f309:=Tryz.func276.trans (aC some (by kernel_rfl))
 f310:=Tryz.func277.trans (aC some (by kernel_rfl))
 f329:=Tryz.func281.trans (aC some (by kernel_rfl))
 f330:=Tryz.func282.trans (aC some (by kernel_rfl))
 f333:=Tryz.func297.trans (aC some (by kernel_rfl))
 f334:=Tryz.func298.trans (aC some (by kernel_rfl))
 f335:=Tryz.func299.trans (aC some (by kernel_rfl))
 f336:=Tryz.func200.trans (aC some (by kernel_rfl))
 f344:=Tryz.func306.trans (aC some (by kernel_rfl))
 t0:=Tryz.underlying0
 a0:=Tryz.isAgg0
 z0:=Tryz.sizeOf0
 v0:=Tryz.zeroValue0
 t3:=Tryz.underlying3
 a3:=Tryz.isAgg3
 z3:=Tryz.sizeOf3
 v3:=Tryz.zeroValue3
 t4:=Tryz.underlying4
 a4:=Tryz.isAgg4
 z4:=Tryz.sizeOf4
 v4:=Tryz.zeroValue4
 t5:=Tryz.underlying5
 a5:=Tryz.isAgg5
 z5:=Tryz.sizeOf5
 v5:=Tryz.zeroValue5
 t9:=Tryz.underlying9
 a9:=Tryz.isAgg9
 z9:=Tryz.sizeOf9
 v9:=Tryz.zeroValue9
 t31:=Tryz.underlying87
 a31:=Tryz.isAgg87
 z31:=Tryz.sizeOf87
 v31:=Tryz.zeroValue87
 t46:=Tryz.underlying240
 a46:=Tryz.isAgg240
 z46:=Tryz.sizeOf240
 v46:=Tryz.zeroValue240
 t51:=Tryz.underlying278
 a51:=Tryz.isAgg278
 z51:=Tryz.sizeOf278
 v51:=Tryz.zeroValue278
 t53:=Tryz.underlying164
 a53:=Tryz.isAgg164
 z53:=Tryz.sizeOf164
 v53:=Tryz.zeroValue164
 t131:=Tryz.underlying79
 a131:=Tryz.isAgg79
 z131:=Tryz.sizeOf79
 v131:=Tryz.zeroValue79
 t182:=Tryz.underlying271
 a182:=Tryz.isAgg271
 z182:=Tryz.sizeOf271
 v182:=Tryz.zeroValue271
 t183:=Tryz.underlying272
 a183:=Tryz.isAgg272
 z183:=Tryz.sizeOf272
 v183:=Tryz.zeroValue272
 t218:=Tryz.underlying299
 a218:=Tryz.isAgg299
 z218:=Tryz.sizeOf299
 v218:=Tryz.zeroValue299
 t222:=Tryz.underlying303
 a222:=Tryz.isAgg303
 z222:=Tryz.sizeOf303
 v222:=Tryz.zeroValue303
 t228:=Tryz.underlying314
 a228:=Tryz.isAgg314
 z228:=Tryz.sizeOf314
 v228:=Tryz.zeroValue314
 t229:=Tryz.underlying315
 a229:=Tryz.isAgg315
 z229:=Tryz.sizeOf315
 v229:=Tryz.zeroValue315 }
def Tryz.Kj:Go.Shelf.Ren:=⟨λ|6=>130|15=>197|14=>196|28=>251|29=>252|20=>243|21=>244|22=>245|23=>246|24=>247|25=>248|26=>249|27=>250|46=>280|47=>281|48=>282|49=>283|50=>284|57=>300|n=>n,λ|22=>106|24=>112|25=>186|3=>3|39=>240|0=>0|53=>278|55=>164|4=>4|46=>272|45=>271|50=>79|5=>5|9=>9|66=>299|70=>303|76=>314|77=>315|n=>n,λ|n=>n⟩
def Tryz.laysF6:Go.Proofs.SlLaysF0.n6 Tryz.prog Tryz.Kj:={
 mixed:=by kernel_rfl
 f6:=⟨Tryz.f130.name,by decide,Tryz.func130.trans (aC some (by kernel_rfl))⟩
 f14:=⟨Tryz.f196.name,by decide,Tryz.func196.trans (aC some (by kernel_rfl))⟩
 f15:=Tryz.func197.trans (aC some (by kernel_rfl))
 f20:=⟨Tryz.f243.name,by decide,Tryz.func243.trans (aC some (by kernel_rfl))⟩
 f21:=⟨Tryz.f244.name,by decide,Tryz.func244.trans (aC some (by kernel_rfl))⟩
 f22:=⟨Tryz.f245.name,by decide,Tryz.func245.trans (aC some (by kernel_rfl))⟩
 f23:=⟨Tryz.f246.name,by decide,Tryz.func246.trans (aC some (by kernel_rfl))⟩
 f24:=⟨Tryz.f247.name,by decide,Tryz.func247.trans (aC some (by kernel_rfl))⟩
 f25:=⟨Tryz.f248.name,by decide,Tryz.func248.trans (aC some (by kernel_rfl))⟩
 f26:=⟨Tryz.f249.name,by decide,Tryz.func249.trans (aC some (by kernel_rfl))⟩
 f27:=⟨Tryz.f250.name,by decide,Tryz.func250.trans (aC some (by kernel_rfl))⟩
 f28:=Tryz.func251.trans (aC some (by kernel_rfl))
 f29:=Tryz.func252.trans (aC some (by kernel_rfl))
 f46:=⟨Tryz.f280.name,by decide,Tryz.func280.trans (aC some (by kernel_rfl))⟩
 f47:=Tryz.func281.trans (aC some (by kernel_rfl))
 f48:=Tryz.func282.trans (aC some (by kernel_rfl))
 f49:=⟨Tryz.f283.name,by decide,Tryz.func283.trans (aC some (by kernel_rfl))⟩
 f50:=⟨Tryz.f284.name,by decide,Tryz.func284.trans (aC some (by kernel_rfl))⟩
 f57:=⟨Tryz.f300.name,by decide,Tryz.func300.trans (aC some (by kernel_rfl))⟩
 t0:=Tryz.underlying0
 a0:=Tryz.isAgg0
 z0:=Tryz.sizeOf0
 v0:=Tryz.zeroValue0
 t3:=Tryz.underlying3
 a3:=Tryz.isAgg3
 z3:=Tryz.sizeOf3
 v3:=Tryz.zeroValue3
 t4:=Tryz.underlying4
 a4:=Tryz.isAgg4
 z4:=Tryz.sizeOf4
 v4:=Tryz.zeroValue4
 t5:=Tryz.underlying5
 a5:=Tryz.isAgg5
 z5:=Tryz.sizeOf5
 v5:=Tryz.zeroValue5
 t9:=Tryz.underlying9
 a9:=Tryz.isAgg9
 z9:=Tryz.sizeOf9
 v9:=Tryz.zeroValue9
 t22:=Tryz.underlying106
 a22:=Tryz.isAgg106
 z22:=Tryz.sizeOf106
 v22:=Tryz.zeroValue106
 t25:=Tryz.underlying186
 a25:=Tryz.isAgg186
 z25:=Tryz.sizeOf186
 v25:=Tryz.zeroValue186
 t39:=Tryz.underlying240
 a39:=Tryz.isAgg240
 z39:=Tryz.sizeOf240
 v39:=Tryz.zeroValue240
 t45:=Tryz.underlying271
 a45:=Tryz.isAgg271
 z45:=Tryz.sizeOf271
 v45:=Tryz.zeroValue271
 t46:=Tryz.underlying272
 a46:=Tryz.isAgg272
 z46:=Tryz.sizeOf272
 v46:=Tryz.zeroValue272
 t50:=Tryz.underlying79
 a50:=Tryz.isAgg79
 z50:=Tryz.sizeOf79
 v50:=Tryz.zeroValue79
 t53:=Tryz.underlying278
 a53:=Tryz.isAgg278
 z53:=Tryz.sizeOf278
 v53:=Tryz.zeroValue278
 t55:=Tryz.underlying164
 a55:=Tryz.isAgg164
 z55:=Tryz.sizeOf164
 v55:=Tryz.zeroValue164
 t66:=Tryz.underlying299
 a66:=Tryz.isAgg299
 z66:=Tryz.sizeOf299
 v66:=Tryz.zeroValue299
 t70:=Tryz.underlying303
 a70:=Tryz.isAgg303
 z70:=Tryz.sizeOf303
 v70:=Tryz.zeroValue303
 t76:=Tryz.underlying314
 a76:=Tryz.isAgg314
 z76:=Tryz.sizeOf314
 v76:=Tryz.zeroValue314
 t77:=Tryz.underlying315
 a77:=Tryz.isAgg315
 z77:=Tryz.sizeOf315
 v77:=Tryz.zeroValue315 }
def Tryz.HO:Go.Shelf.Ren:=⟨λ|6=>213|15=>197|14=>255|28=>251|29=>252|20=>287|21=>288|22=>289|23=>290|24=>291|25=>292|26=>293|27=>294|46=>303|47=>281|48=>282|49=>304|50=>305|57=>307|n=>n,λ|22=>50|24=>54|25=>209|3=>3|39=>240|0=>0|53=>278|55=>164|4=>4|46=>272|45=>271|50=>79|5=>5|9=>9|66=>299|70=>303|76=>314|77=>315|n=>n,λ|n=>n⟩
def Tryz.RS:Go.Proofs.SlLaysF0.n6 Tryz.prog Tryz.HO:={
 mixed:=by kernel_rfl
 f6:=⟨Tryz.f213.name,by decide,Tryz.func213.trans (aC some (by kernel_rfl))⟩
 f14:=⟨Tryz.f255.name,by decide,Tryz.func255.trans (aC some (by kernel_rfl))⟩
 f15:=Tryz.func197.trans (aC some (by kernel_rfl))
 f20:=⟨Tryz.f287.name,by decide,Tryz.func287.trans (aC some (by kernel_rfl))⟩
 f21:=⟨Tryz.f288.name,by decide,Tryz.func288.trans (aC some (by kernel_rfl))⟩
 f22:=⟨Tryz.f289.name,by decide,Tryz.func289.trans (aC some (by kernel_rfl))⟩
 f23:=⟨Tryz.f290.name,by decide,Tryz.func290.trans (aC some (by kernel_rfl))⟩
 f24:=⟨Tryz.f291.name,by decide,Tryz.func291.trans (aC some (by kernel_rfl))⟩
 f25:=⟨Tryz.f292.name,by decide,Tryz.func292.trans (aC some (by kernel_rfl))⟩
 f26:=⟨Tryz.f293.name,by decide,Tryz.func293.trans (aC some (by kernel_rfl))⟩
 f27:=⟨Tryz.f294.name,by decide,Tryz.func294.trans (aC some (by kernel_rfl))⟩
 f28:=Tryz.func251.trans (aC some (by kernel_rfl))
 f29:=Tryz.func252.trans (aC some (by kernel_rfl))
 f46:=⟨Tryz.f303.name,by decide,Tryz.func303.trans (aC some (by kernel_rfl))⟩
 f47:=Tryz.func281.trans (aC some (by kernel_rfl))
 f48:=Tryz.func282.trans (aC some (by kernel_rfl))
 f49:=⟨Tryz.f304.name,by decide,Tryz.func304.trans (aC some (by kernel_rfl))⟩
 f50:=⟨Tryz.f305.name,by decide,Tryz.func305.trans (aC some (by kernel_rfl))⟩
 f57:=⟨Tryz.f307.name,by decide,Tryz.func307.trans (aC some (by kernel_rfl))⟩
 t0:=Tryz.underlying0
 a0:=Tryz.isAgg0
 z0:=Tryz.sizeOf0
 v0:=Tryz.zeroValue0
 t3:=Tryz.underlying3
 a3:=Tryz.isAgg3
 z3:=Tryz.sizeOf3
 v3:=Tryz.zeroValue3
 t4:=Tryz.underlying4
 a4:=Tryz.isAgg4
 z4:=Tryz.sizeOf4
 v4:=Tryz.zeroValue4
 t5:=Tryz.underlying5
 a5:=Tryz.isAgg5
 z5:=Tryz.sizeOf5
 v5:=Tryz.zeroValue5
 t9:=Tryz.underlying9
 a9:=Tryz.isAgg9
 z9:=Tryz.sizeOf9
 v9:=Tryz.zeroValue9
 t22:=Tryz.underlying50
 a22:=Tryz.isAgg50
 z22:=Tryz.sizeOf50
 v22:=Tryz.zeroValue50
 t25:=Tryz.underlying209
 a25:=Tryz.isAgg209
 z25:=Tryz.sizeOf209
 v25:=Tryz.zeroValue209
 t39:=Tryz.underlying240
 a39:=Tryz.isAgg240
 z39:=Tryz.sizeOf240
 v39:=Tryz.zeroValue240
 t45:=Tryz.underlying271
 a45:=Tryz.isAgg271
 z45:=Tryz.sizeOf271
 v45:=Tryz.zeroValue271
 t46:=Tryz.underlying272
 a46:=Tryz.isAgg272
 z46:=Tryz.sizeOf272
 v46:=Tryz.zeroValue272
 t50:=Tryz.underlying79
 a50:=Tryz.isAgg79
 z50:=Tryz.sizeOf79
 v50:=Tryz.zeroValue79
 t53:=Tryz.underlying278
 a53:=Tryz.isAgg278
 z53:=Tryz.sizeOf278
 v53:=Tryz.zeroValue278
 t55:=Tryz.underlying164
 a55:=Tryz.isAgg164
 z55:=Tryz.sizeOf164
 v55:=Tryz.zeroValue164
 t66:=Tryz.underlying299
 a66:=Tryz.isAgg299
 z66:=Tryz.sizeOf299
 v66:=Tryz.zeroValue299
 t70:=Tryz.underlying303
 a70:=Tryz.isAgg303
 z70:=Tryz.sizeOf303
 v70:=Tryz.zeroValue303
 t76:=Tryz.underlying314
 a76:=Tryz.isAgg314
 z76:=Tryz.sizeOf314
 v76:=Tryz.zeroValue314
 t77:=Tryz.underlying315
 a77:=Tryz.isAgg315
 z77:=Tryz.sizeOf315
 v77:=Tryz.zeroValue315 }
def Tryz.Ki:Go.Shelf.Ren:=⟨λ|29=>186|n=>n,λ|22=>164|3=>3|4=>4|25=>240|54=>265|0=>0|5=>5|n=>n,λ|1=>0|n=>n⟩
def Tryz.lays29:Go.Proofs.Lays7.n29 Tryz.prog Tryz.Ki:={
 mixed:=by kernel_rfl
 f29:=Tryz.func186.trans (aC some (by kernel_rfl))
 t0:=Tryz.underlying0
 a0:=Tryz.isAgg0
 z0:=Tryz.sizeOf0
 v0:=Tryz.zeroValue0
 i0:=by kernel_rfl
 t3:=Tryz.underlying3
 a3:=Tryz.isAgg3
 z3:=Tryz.sizeOf3
 v3:=Tryz.zeroValue3
 i3:=by kernel_rfl
 t4:=Tryz.underlying4
 a4:=Tryz.isAgg4
 z4:=Tryz.sizeOf4
 v4:=Tryz.zeroValue4
 i4:=by kernel_rfl
 t5:=Tryz.underlying5
 a5:=Tryz.isAgg5
 z5:=Tryz.sizeOf5
 v5:=Tryz.zeroValue5
 i5:=by kernel_rfl
 t22:=Tryz.underlying164
 a22:=Tryz.isAgg164
 z22:=Tryz.sizeOf164
 v22:=Tryz.zeroValue164
 i22:=by kernel_rfl
 t25:=Tryz.underlying240
 a25:=Tryz.isAgg240
 z25:=Tryz.sizeOf240
 v25:=Tryz.zeroValue240
 i25:=by kernel_rfl
 t54:=Tryz.underlying265
 a54:=Tryz.isAgg265
 z54:=Tryz.sizeOf265
 g1:=by kernel_rfl }
end Go.Proofs
namespace Go.AM
open Go.RowKit Go.ChangeShapes Go.WideShapes Go.ChangeAt
mutual
def AV.bulk:AV->Nat
 | .str s=>s.length+1
 | .c4 _ xs=>Dw xs+1
 | .agg cs=>nX cs
 | .bool _=>1
 | .int _ _=>1
 | .fn _ _=>1
 | .jy cs=>nX cs
 | .ref _=>1
 | .mp _ _=>1
 | .self _=>1
 | .yB=>1
 | .nw=>1
 | .hole=>1
def nX:List AV->Nat
 |[]=>0
 |a::l=>AV.bulk a+nX l
def Dw:List (List AV)->Nat
 |[]=>0
 |c::l=>nX c+Dw l
end
mutual
def AV.wf:AV->Prop
 | .str s=>s.length<=maxLen
 | .c4 _ xs=>wfR xs
 | .agg cs=>K2 cs
 | .bool _=>True
 | .int k n=>(Lit.int k n).wf=true
 | .fn _ _=>True
 | .jy cs=>K2 cs
 | .ref _=>True
 | .mp _ _=>True
 | .self _=>True
 | .yB=>True
 | .nw=>True
 | .hole=>True
def K2:List AV->Prop
 |[]=>True
 |a::l=>AV.wf a/\K2 l
def wfR:List (List AV)->Prop
 |[]=>True
 |c::l=>K2 c/\wfR l
end
def Ei (a b:List AV):nX (a++b)=nX a+nX b:=by induction a with
 |nil=>simp[nX]
 |cons x a l=>simp only[eM,nX,l];omega
def K3 {a b:List AV}:K2 (a++b)↔K2 a/\K2 b:=by induction a with
 |nil=>simp[K2]
 |cons x a l=>simp only[eM,K2,l,and_assoc]
def Sj {l:List (List AV)} (h:∀c∈l,K2 c):wfR l:=by induction l with
 |nil=>trivial
 |cons c l z=>exact⟨h c ah,z λx q=>h x (by simp[q])⟩
structure rY {H:Type} (bk:DataW H->Nat) (Lb:List (DataW H)->Nat):Prop where
 str:∀l,bk (.lit (.string l))=l.length+1
 lit:∀l,1<=bk (.lit l)
 nil:1<=bk .nil
 slice:∀e s,bk (.slice e s)=Lb e+Lb s+1
 agg:∀p,bk (.agg p)=Lb p+1
 nilA:Lb []=0
 Oj:∀d r,Lb (d::r)=bk d+Lb r
def Nz (w:World):Mu:=λb j=>y5 w b j
def R6 (w:World):Bf (Nz w) w:=λ_ _ _ h=>h
section
variable {H:Type} {enc:TypeId×Value->H} {P:Program} {w:World} {bk:DataW H->Nat} {Lb:List (DataW H)->Nat}
def CV (enc:TypeId×Value->H) (P:Program) (w:World) (bk:DataW H->Nat) (n:Nat) (t:TypeId) (Q:List AV->Prop):Prop:=
 ∀q d z,DataW.trod enc P w 0 (λ_=>true) true n t q=some (d,z)->∃l,Q l/\gV (Nz w) l q/\nX l<=bk d/\K2 l
def CV.zero {t:TypeId} {Q:List AV->Prop}:CV enc P w bk 0 t Q:=λl d q h=>by simp[DataW.trod] at h
def CV.mono {n:Nat} {t:TypeId} {Q l:List AV->Prop} (h:CV enc P w bk n t Q) (F:∀a,Q a->l a):CV enc P w bk n t l:=λq d G D=>let⟨a,z,B⟩:=h q d G D;⟨a,F a z,B⟩
def KJ (z:rY bk Lb) {n:Nat} {t:TypeId} {k:IntKind} (B:P.underlying t=some (.int k)):CV enc P w bk n t λl=>∃x,l=bU k x:=by
 intro F d G h;obtain⟨x,rfl,q,D⟩:=DataW.trod_int B h;simp only[aQ] at q;obtain⟨rfl,rfl⟩:=q;refine⟨bU k x,⟨x,rfl⟩,⟨bq (by simp[rep]) cF,by simp[Value.oneCell']⟩,?_,?_⟩
 .simp only[bU,nX,AV.bulk];exact z.lit _
 .exact⟨D,trivial⟩
def Dj {D:Mu} {q b:Nat}:∀{xs:List (List AV)} {l:Nat},(∀i x,xs[i]? =some x->∃z,gV D x z/\z.length=q/\∀j u,z[j]? =some u->D b (l+i *q+j)=some u)->iI D q b xs l:=by intro xs;induction xs with
 |nil=>intro l _;simp[iI]
 |cons x xs L=>intro l h;rw[iI];obtain⟨z,F,G,I⟩:=h 0 x rfl;refine⟨⟨z,F.1,F.2,G,λj u B=>by have:=I j u B;simpa using this⟩,L λi y K=> ?_⟩;obtain⟨R,N,O,Q⟩:=h (i+1) y (by simpa using K);refine⟨R,N,O,λj u B=> ?_⟩;have:=Q j u B;rwa[show l+(i+1) *q+j=l+q+i *q+j from by rw[hU];omega] at this
def N9 (z:rY bk Lb):∀(xs:List (List AV)) (l:List (DataW H)),xs.length=l.length->(∀(i:Nat) (x:List AV) (d:DataW H),xs[i]? =some x->l[i]? =some d->nX x<=bk d)->Dw xs<=Lb l:=by intro xs;induction xs with
 |nil=>intro l _ _;simp[Dw]
 |cons x xs F=>intro l q h;cases l with
  |nil=>simp at q
  |cons d l=>
   rw[z.Oj];have G:=h 0 x d rfl rfl;have:=F l (by simpa using q) λi y e D B=>h (i+1) y e (by simpa using D) (by simpa using B)
   simp only[Dw];omega
def Iu (hB:rY bk Lb) {n:Nat} {t e:TypeId} {sz:Nat} (ht:P.underlying t=some (.slice e)) (hc:P.cellsOf e=sz) (hpos:0<sz) {Q:List AV->Prop} (he:CV enc P w bk n e Q):
  CV enc P w bk (n+1) t λQN=>∃xs,QN=[.c4 sz xs]/\∀x∈xs,Q x:=by
 intro cs d ps h;rcases DataW.trod_slice ht h with⟨rfl,l⟩|⟨a,len,cap,elems,rest,n',hn,rfl,l,hb,hl,hm,W,hel,_,_⟩
 .simp only[aQ] at l;obtain⟨rfl,rfl⟩:=l;refine⟨[.c4 sz []],⟨[],rfl,ah⟩,⟨bq ?_ cF,by simp[Value.oneCell']⟩,?_,?_⟩
  .rw[rep];exact⟨none,0,rfl,aJ _,by simp[maxLen], .inl rfl⟩
  .simp only[nX,AV.bulk,Dw];exact hB.nil
  .simp[K2,AV.wf,wfR]
 .obtain rfl:n=n':=by omega
  simp only[aQ] at l;obtain⟨rfl,rfl⟩:=l;have U:∀i,i<len->∃O:List AV,Q O/\∃z,w.cells? 0 (a.add (i *sz)) sz=some z/\gV (Nz w) O z/\(∀x,elems[i]? =some x->nX O<=bk x.1)/\K2 O:=by
   intro i D;have R:=hel i D;rw[hc] at R;obtain⟨x,l⟩:∃x,elems[i]? =some x:=⟨elems[i]'(by omega),aW af⟩
   rw[l] at R;obtain⟨z,B,K⟩:=bZ.1 R;obtain⟨O,k1,k2,k3,k4⟩:=he z x.1 x.2 K;exact⟨O,k1,z,B,k2,λy S=>by rw[l] at S;injection S with S;subst S;exact k3,k4⟩
  obtain⟨f,V⟩:=Deep.choose_lt U;have G:∀i x,((List.range len).map f)[i]? =some x->i<len/\x=f i:=by intro i x l;simp only[dz,bg] at l;obtain⟨j,hj,rfl⟩:=l;obtain⟨R,B⟩:=bp.1 hj;simp at R B;subst B;exact⟨R,rfl⟩
  have I:∀x∈(List.range len).map f,∃i,i<len/\x=f i:=by intro x l;simp only[aA,fC] at l;obtain⟨i,D,rfl⟩:=l;exact⟨i,D,rfl⟩
  refine⟨[.c4 sz ((List.range len).map f)],⟨_,rfl,λx l=> ?_⟩,⟨bq ?_ cF,by simp[Value.oneCell']⟩,?_,?_⟩
  .obtain⟨i,D,rfl⟩:=I x l;exact(V i D).1
  .rw[rep];refine⟨some a,cap,by simp,by simpa using hl,hm,?_⟩;cases len with
   |zero=>exact .inl ah
   |succ len=>
    right;have F:a.spot=none:=by
     obtain⟨_,z,B,_⟩:=V 0 af;simp only[World.cells?,cB,js] at B;have K:=mapM_some_get B 0 0 (by simp[hpos]);have h4:z[0]? ≠none:=by have:=tA B;simp at this;intro L;rw[zN] at L;omega
     rw[<-K] at h4;simp only[Addr.add,uP,js] at h4;cases hsp:a.spot with
     |none=>rfl
     |some q=>exfalso;apply h4;simp only[World.cell?,hsp];split<;>simp
    obtain⟨b,N,sp⟩:=a;simp only at F;subst F;refine⟨b,N,rfl,Dj λi x l=> ?_⟩;obtain⟨D,rfl⟩:=G i x l;obtain⟨_,z,B,k2,_⟩:=V i D;simp only[World.cells?,cB,js] at B;refine⟨z,k2,by simpa using tA B,λj u hu=> ?_⟩;have hj:j<sz:=by have:=tA B;simp at this;have:=(bp.1 hu).1;omega
    have K:=mapM_some_get B j j (by simp[hj]);rw[hu,Deep.add_add] at K;unfold Nz;have e:(⟨b,N,none⟩:Addr).add (i *sz+j)=⟨b,N+i *sz+j,none⟩:=by
     unfold Addr.add;split
     .rename_i h0;rw[jP,h0];rfl
     .simp[jP]
    rw[e] at K;exact oZ K (k2.2 u (aS hu))
  .simp only[nX,AV.bulk,hB.slice];have:=N9 hB ((List.range len).map f) (elems.map (·.1)) (by simp[W]) λi x d l hd=>by
    obtain⟨D,rfl⟩:=G i x l;simp only[dz,bg] at hd;obtain⟨y,S,rfl⟩:=hd;obtain⟨_,_,_,_,k,_⟩:=V i D;exact k y S
   omega
  .refine⟨Sj λx l=> ?_,trivial⟩;obtain⟨i,D,rfl⟩:=I x l;obtain⟨_,_,_,_,_,k⟩:=V i D;exact k
def Cat:List (List AV->Prop)->List AV->Prop
 |[],l=>l=[]
 |Q::Qs,l=>∃a b,l=a++b/\Q a/\Cat Qs b
def E6 (P:Program):Nat->List Field->Bool
 |_,[]=>true
 |q,f::l=>Nat.beq f.offset q&&E6 P (q+P.cellsOf f.type) l
def KV (P:Program):List Field->Nat
 |[]=>0
 |f::l=>P.cellsOf f.type+KV P l
def ND (enc:TypeId×Value->H) (P:Program) (w:World) (bk:DataW H->Nat) (n:Nat):List Field->List (List AV->Prop)->Prop
 |[],[]=>True
 |f::l,Q::Qs=>CV enc P w bk n f.type Q/\ND enc P w bk n l Qs
 |_,_=>False
def Nf (S:rY bk Lb) {n:Nat} {F:List Value}:∀(z:List Field) (Qs:List (List AV->Prop)) (xs:List (DataW H×List MemPlace)) (l:Nat),ND enc P w bk n z Qs->E6 P l z=true->xs.length=z.length->l+KV P z<=F.length->
  (∀(i:Nat) (f:Field),z[i]? =some f->DataW.trod enc P w 0 (λ_=>true) true n f.type ((F.drop f.offset).take (P.cellsOf f.type))=xs[i]?)->
  ∃q,Cat Qs q/\gV (Nz w) q ((F.drop l).take (KV P z))/\nX q<=Lb (xs.map (·.1))/\K2 q:=by
 intro z;induction z with
 |nil=>intro Qs xs l B _ G _ _;cases Qs with
  |nil=>exact⟨[],rfl,⟨by simp[KV,bl],by simp[KV]⟩,by simp[nX],trivial⟩
  |cons Q Qs=>exact B.elim
 |cons f z V=>intro Qs xs l B K G I R;cases Qs with
  |nil=>exact B.elim
  |cons Q Qs=>cases xs with
   |nil=>simp at G
   |cons x xs=>
    simp only[E6,aF] at K;have D:=beq_iff.1 K.1;simp only[KV] at I⊢;have O:=R 0 f rfl;rw[D] at O;obtain⟨L,W,r0,b0,w0⟩:=B.1 _ x.1 x.2 O;obtain⟨N,q1,r1,b1,w1⟩:=V Qs xs (l+P.cellsOf f.type) B.2 K.2 (by simpa using G) af λi g U=>R (i+1) g (by simpa using U)
    refine⟨L++N,⟨L,N,rfl,W,q1⟩,?_,?_,K3.2 ⟨w0,w1⟩⟩
    .rw[List.take_add,nj];exact r0.append r1
    .rw[Ei,aK,S.Oj];omega
def zw (F:rY bk Lb) {n:Nat} {t:TypeId} {l:Array Field} {Qs:List (List AV->Prop)} (Q:P.underlying t=some (.struct l)) (N:E6 P 0 l.toList=true) (O:KV P l.toList=P.cellsOf t)
  (I:ND enc P w bk n l.toList Qs):CV enc P w bk (n+1) t (Cat Qs):=by
 intro S d V h;obtain⟨xs,R,U,G,L,D,z⟩:=DataW.trod_struct Q h;obtain rfl:n=R:=by omega
 simp only[aQ] at G;obtain⟨rfl,rfl⟩:=G;obtain⟨B,q,r,b,wf⟩:=Nf F l.toList Qs xs 0 I N (by simpa using D) af λi f K=>z i f (by simpa using K)
 refine⟨B,q,?_,by rw[F.agg];omega,wf⟩;rw[O,<-L] at r;simpa using r
def Rh {t:TypeId} {F:Array Field} {v:Value} {d:DataW H} {N:List MemPlace} {Q:List AV->Prop} {Qv:Reach} {z:Nat} (L:P.underlying t=some (.struct F)) (B:Value.okWide P w Qv z t v)
  (I:DataW.Trod enc P w 0 (λ_=>true) true t v d N) (G:∀n,CV enc P w bk n t Q):∃l,Q l/\rep (Nz w) (.agg l) v/\nX l<=bk d/\K2 l:=by
 obtain⟨D,rfl,_⟩:=WideShapes.okWide_struct L B;obtain⟨n,K⟩:=I;obtain⟨l,q,r,b,wf⟩:=G n _ _ _ K;refine⟨l,q,?_,b,wf⟩;rw[rep];exact⟨D.toList,by simp,by simpa[Value.cells] using r.1,by simpa[Value.cells] using r.2⟩
end
def MW {P:Program} {H:Nat->Hint} {dm:cr} {q:Qp} {B:Mu} (I:xw P=true) (D:∀f fn c,P.funcs[f]? =some fn->fn.body=some c->jO q B P (H f) fn.ntmps c) (z:dX q B P dm) {f:Nat} {QN:List AV} {us:List Value} {W:World} (U:B.le (Nz W)) (F:bl (Nz W) QN us)
  (G:run P H dm f (QN.map .pv) []=some (.bool true,[])):Calls P f us.toArray W λe L=>e= .returned (.bool true)/\Below W.heap.size W L:=by
 have V:∀{QN:List AV} {us:List Value},bl (Nz W) QN us->fK (Nz W) (λ_=> .bool false) (QN.map .pv) us:=by intro QN;induction QN with
  |nil=>intro us h;rw[bl] at h;subst h;rfl
  |cons a l ih=>intro us h;rw[bl] at h;obtain⟨u,K,rfl,R,S⟩:=h;exact⟨u,K,rfl,R,ih S⟩
 have:=(dX.Vo (zA I D z f _ [] _ [] G W (Nz W) (λ_=> .bool false) us U (R6 W) (λid o h=>by cases h) (λi j oi oj h=>by cases h) (V F)) λxs=>by simp[find]).2;refine this.mono ?_;rintro e L ⟨v,μ',Q,rfl,N⟩;have O:=N.pure rfl;rw[rep] at O;subst O;exact⟨rfl,x7 N⟩
def wQ {K:Type} {enc:TypeId×Value->K} {P:Program} (O:laidOutB P=true) {W L:World} (N:Below W.heap.size W L):∀{B:List TypeId} {I:List Value} {D:List (DataW K)} {z:List MemPlace},(∀t∈B,P.readableRec t=true/\t<P.types.size)->
  (∀x∈z,x.block<W.heap.size)->DataW.TrodAll enc P W 0 (λ_=>true) true B I D z->DataW.TrodAll enc P L 0 (λb=>decide (b<W.heap.size)) true B I D z
 |[],[],[],_,_,_,h=>h
 |[],[],_::_,_,_,_,h=>h.elim
 |[],_::_,_,_,_,_,h=>by cases h
 |_::_,[],_,_,_,_,h=>by cases h
 |_::_,_::_,[],_,_,_,h=>h.elim
 |t::B,v::I,d::D,z,F,l,h=>by obtain⟨p,q,Q,R,rfl⟩:=h;exact⟨p,q,Below.trod O (F t ah).1 (F t ah).2 Q N (λx G=>l x (by simp[G])),wQ O N (λt S=>F t (by simp[S])) (λx G=>l x (by simp[G])) R,rfl⟩
def vC {B:Type} {enc:TypeId×Value->B} {P:Program} {W:World}:∀{z:List TypeId} {F:List Value} {l:List (DataW B)} {D:List MemPlace},DataW.TrodAll enc P W 0 (λ_=>true) true z F l D->l.length=z.length
 |[],[],[],_,_=>rfl
 |[],[],_::_,_,h=>h.elim
 |[],_::_,_,_,h=>by cases h
 |_::_,[],_,_,h=>by cases h
 |_::_,_::_,[],_,h=>h.elim
 |t::z,v::F,d::l,D,h=>by obtain⟨p,q,I,G,rfl⟩:=h;simp[vC G]
def M7 {L:Type} {enc:TypeId×Value->L} {P:Program} {fn:Func} {s:ChangeSpec} {tb:TypeId} {W W':World} {args:Array Value} {D N:List (DataW L)} {before:List MemPlace} {l F z:Bool}
  (hl:laidOutB P=true) (I:fn.params.toList.all (λt=>P.readableRec t&&decide (t<P.types.size))=true) (B:s.vars=[]) (K:fn.resultTypes= #[tb]) (V:P.underlying tb=some .bool)
  (S:∀D:List (DataW L),D.length=fn.params.size->s.fn L D={ results:=[.lit (.bool true)],args:=D })
  (Q:DataW.Whole enc P fn.params.toList s.vars l W args.toList D N before) (hb:Below W.heap.size W W'):
  s.post enc P fn l F z false W args (.bool true) W':=by
 have U:=Q.lt;have R:=Q;obtain⟨p,q,hA,O,rfl,_,_⟩:=Q;rw[B] at O;obtain⟨rfl,rfl⟩:N=[]/\q=[]:=by cases N with
  |nil=>exact⟨rfl,O⟩
  |cons g N=>exact O.elim
 have G:=vC hA;have e:=S D (by rw[G,zL]);refine⟨D,[],p++[],[],p,[],R,?_,?_,?_,hb.frame _,λh=>by cases h⟩
 .rw[eT,e,K];exact trodAll_cons_mk (shut_bool V _) trodAll_mk0
 .rw[eT,e];refine wQ hl hb (λt ht=> ?_) (λx hx=>U x (by simp[hx])) hA;have:=cH.1 I t ht;simp only[aF,ni] at this;exact this
 .rw[eT,e,B];rfl
end Go.AM
namespace Go.Proofs.YthppjmoncapdfaaGreatDoor.cl
open Go Go.AM Go.RowKit
def D4 {V:Mu} {D:Nat->Value} {w K:World} {e L g n z:Nat} {W:List (List AV)} {us:List Value} {cur l:Array Value}
  (U:Bf V w) (B:D 10000= .slice (some ⟨g,0,none⟩) n z) (N:n<=z) (O:z<=maxLen) (I:cur.size=z *L) (S:zq w.heap.size (gJ False D [10000]) 10000 g) (Q:∀j,V g j=none)
  (hg:K.heap[g]? =some (.cells l e (0,0))) (hs:l.size=cur.size) (wD:l.toList.take (n *L)=us) (DF:us.length=n *L) (G:∀b,b<w.heap.size->b≠g->K.heap[b]? =w.heap[b]?)
  (hos:K.os=w.os) (ht:K.tape=w.tape) (R:K.output=w.output) (hgr:w.heap.size<=K.heap.size) (F:W.length=n) (hrc:bS V L W us):
  dY False V D [10000] (.jy []) [(10000, .row e L W)] w (.tuple #[]) V D K where
 ext:=⟨Mu.le.refl _,λ_ _ _ h=> .inl h⟩
 qk:=λb j x hx=>by
  have h:=U b j x hx;have hne:b≠g:=λe=>by subst e;rw[Q j] at hx;cases hx
  rw[dW (G b (jx h) hne) j];exact h
 res:= .inl (by rw[rep.eq_def];exact⟨[],rfl,rfl⟩)
 obs:=λid o h=>by
  have hid:=jk h;subst hid;have ho:Ob.row e L W=o:=by simpa[find] using h
  subst ho;refine⟨us,⟨by rw[DF,F], .inr ⟨g,z,l,by rw[B,F],cB _,hg,by rw[F];exact N,O,by rw[hs,I],by rw[F];exact wD⟩⟩,hrc,λq hq=> ?_⟩
  have:q=g:=by rw[B] at hq;have h2:some g=some q:=fz.1 hq;exact(eO h2).symm
  subst this;exact⟨S,Q⟩
 apart:=λi j oi oj hi hj hij=>absurd ((jk hi).trans (jk hj).symm) hij
 keep:=λb hlt hl=>G b hlt (λe=>by
  subst e
  exact hl ⟨10000,D 10000,by simp[gJ],by rw[B];exact fz.2 rfl⟩)
 fix:=λ_ _ _=>rfl
 os:=hos
 tape:=ht
 output:=R
 grown:=hgr
 drawn:=λh=>h.elim
end Go.Proofs.YthppjmoncapdfaaGreatDoor.cl
namespace Go.Proofs.YthppjmoncapdfaaGreatDoor.cl
open Go Go.AM Go.RowKit
def vB {I:Type} {lt:I->I->Bool}:∀{l q:List I},l.Perm q->oc lt l->oc lt q->(∀x∈l,∀y∈l,lt x y=false->lt y x=false->x=y)->l=q:=by intro l;induction l with
 |nil=>intro q h _ _ _;exact(List.nil_perm.1 h).symm
 |cons x l U=>intro q h N O K;cases q with
  |nil=>exact absurd h.symm ah
  |cons y q=>
   have z:=c9.1 N;have B:=c9.1 O;have F:x=y:=by
    have L:y∈x::l:=h.mem_iff.2 ah;have S:x∈y::q:=h.mem_iff.1 ah;rcases aD.1 L with e|G
    .exact e.symm
    .rcases aD.1 S with e|D
     .exact e
     .exact K x ah y L (B.1 x D) (z.1 y G)
   subst F;rw[U (List.Perm.cons_inv h) z.2 B.2 λa Q b R=>K a (by simp[Q]) b (by simp[R])]
def oT {B:Type} (lt:B->B->Bool) (q:∀a b,lt a b=true->lt b a=false) (up:∀x y z,lt x y=true->lt z y=false->lt x z=true) (l:List B):oc lt (jB lt l)/\(jB lt l).Perm l:=by
 have G:∀(x:B) (l:List B),(w8 lt x l).Perm (x::l):=by intro x l;induction l with
  |nil=>exact .refl _
  |cons y l F=>
   unfold w8;split
   .exact .refl _
   .exact(F.cons y).trans (.swap x y l)
 have key:∀(l E:List B),oc lt E->oc lt (l.foldl (λout x=>w8 lt x out) E)/\(l.foldl (λout x=>w8 lt x out) E).Perm (E++l):=by intro l;induction l with
  |nil=>intro E D;exact⟨D,ah⟩
  |cons p l F=>intro E D;obtain⟨I,K⟩:=F _ (HG lt q up D (x:=p));refine⟨I,K.trans ?_⟩;exact((G p E).append_right l).trans (List.perm_middle (a:=p) (l₁:=E) (l₂:=l)).symm
 have:=key l [] (by simp[oc]);simpa[jB] using this
def za (x y z:List UInt8) (h:Op.bytesLess x y=true) (l:Op.bytesLess z y=false):Op.bytesLess x z=true:=by
 by_cases e:z=y
 .rw[e];exact h
 .exact GF _ _ _ h (Br _ _ l e)
end Go.Proofs.YthppjmoncapdfaaGreatDoor.cl
namespace Go.Proofs.YthppjmoncapdfaaGreatDoor.cl
open Go Go.AM Go.RowKit
def HV (l:List (List UInt8)):(l.mergeSort λx y=>decide (x<=y))=jB Op.bytesLess l:=by
 have e:(λx y:List UInt8=>decide (x<=y))=λx y=> !Op.bytesLess y x:=by
  funext x y;rw[bytesLess_eq];by_cases h:y<x
  .have:¬x<=y:=λF=>F h
   simp[h,this]
  .have:x<=y:=h
   simp[h,this]
 rw[e];obtain⟨s1,s2⟩:=oT Op.bytesLess (λa b h=>r7 h) za l;refine vB ((List.mergeSort_perm l _).trans s2.symm) ?_ s1 ?_
 .have:=List.pairwise_mergeSort (le:=λx y:List UInt8=> !Op.bytesLess y x) (λa b c q z=>by
   simp only[ga] at q z⊢;cases B:Op.bytesLess c a with
   |false=>rfl
   |true=>
    have:=za _ _ _ B q
    rw[z] at this;cases this) (λa b=>by
   cases B:Op.bytesLess b a with
   |false=>simp
   |true=>simp[r7 B]) l
  refine this.imp ?_;intro a b h;simpa using h
 .intro x _ y _ q z;apply mY;intro D;have:=Br _ _ q D;rw[z] at this;cases this
open Go.Sort in
def BO {z:Type} [Inhabited z] {enc:z->Value} {w:World} {n g:Nat} {d:Array z} {os:Array Obj} {cur:Array Value} {e:TypeId} (B:w.heap[g]? =some (.cells cur e (0,0))):
  (grow (putRow enc (Sort.ahead w n) g 0 d) os).heap[g]? =some (.cells (putCells enc 0 d cur) e (0,0))/\(∀b,b<w.heap.size->b≠g->(grow (putRow enc (Sort.ahead w n) g 0 d) os).heap[b]? =w.heap[b]?)/\w.heap.size<=(grow (putRow enc (Sort.ahead w n) g 0 d) os).heap.size:=by
 have l:g<w.heap.size:=(cO.1 B).1;have F:(grow (putRow enc (Sort.ahead w n) g 0 d) os).heap=w.heap.modify g (onCells (putCells enc 0 d))++os:=rfl;rw[F];refine⟨?_,λb D q=> ?_,?_⟩
 .rw[pZ (by simpa using l),tB,ak rfl,B];rfl
 .rw[pZ (by simpa using D),tB,az (λh=>q h.symm)]
 .simp
open Go.Sort in
def IU {z:Type} [Inhabited z] {enc:z->Value} {l:List z} {cur:Array Value} (h:l.length<=cur.size):(putCells enc 0 l.toArray cur).size=cur.size/\(putCells enc 0 l.toArray cur).toList.take l.length=l.map enc:=by
 refine⟨by simp[putCells],?_⟩;apply je;intro i;by_cases q:i<l.length
 .rw[mI,ak q,dz,aW q];have B:i<cur.size:=af;simp[putCells,q,B,aW q]
 .rw[fE aX,fE aX]
def wN {K:Mu}:∀{l:List (List UInt8)} {B:List Value},bS K 1 (l.map iP) B↔B=l.map encStr:=by intro l;induction l with
 |nil=>intro B;exact Iff.rfl
 |cons s l F=>
  intro B;constructor
  .rintro⟨L,ws,rfl,z,_,G⟩;have q:=z.1;simp only[iP,bl] at q;obtain⟨u,I,rfl,D,rfl⟩:=q;rw[rep] at D;subst D;rw[F.1 G];rfl
  .rintro rfl;exact⟨[encStr s],l.map encStr,rfl,⟨⟨_,_,rfl,by rw[rep],rfl⟩,λu z=>by simp only[cD] at z;subst z;rfl⟩,rfl,F.2 rfl⟩
def D0 {z:Mu} {l:Nat->Value} {w:World} {o:Ob} (q:Bf z w) (F:jC w.heap.size (gJ False l [10000]) z l w 10000 o):dY False z l [10000] (.jy []) [(10000,o)] w (.tuple #[]) z l w where
 ext:=⟨Mu.le.refl _,λ_ _ _ h=> .inl h⟩
 qk:=q
 res:= .inl (by rw[rep.eq_def];exact⟨[],rfl,rfl⟩)
 obs:=λid L h=>by
  have B:=jk h;subst B;have K:o=L:=by simpa[find] using h
  subst K;exact F
 apart:=λi j N O G I D=>absurd ((jk G).trans (jk I).symm) D
 keep:=λ_ _ _=>rfl
 fix:=λ_ _ _=>rfl
 os:=rfl
 tape:=rfl
 output:=rfl
 grown:=aJ _
 drawn:=λh=>h.elim
def UU {μ:Mu} {z:Nat->Value} {w:World} {l:List (List UInt8)} (hlen:l.length<=1073741824) (D:Bf μ w) (S:jC w.heap.size (gJ False z [10000]) μ z w 10000 (.row 9 1 (l.map iP))):
  Calls P 180 #[z 10000] w λe K=>∃v μ' loc',e= .returned v/\dY False μ z [10000] (.jy []) [(10000, .row 9 1 ((jB Op.bytesLess l).map iP))] w v μ' loc' K:=by
 have U:=S;obtain⟨vs,V,hrc,QO⟩:=U;have hvs:=wN.1 hrc;rcases V.2 with⟨L,h0⟩|⟨g,N,cur,L,_,hg,B,R,W,q⟩
 .have hl:l=[]:=by
   cases l with
   |nil=>rfl
   |cons a b=>simp at h0
  subst hl;have hc:Calls P 180 #[.slice none 0 0] w λe K=>e= .returned (.tuple #[])/\K=w:=Any.slices_Sort_string_none Tryz.lays190 none 0 w
  rw[L];refine hc.mono ?_;rintro e K ⟨rfl,rfl⟩;exact⟨_,μ,z,rfl,D0 D S⟩
 .have SX:(l.map iP).length=l.length:=ah;rw[SX] at L B q;rw[tC] at W q;rw[hvs] at q;have hin:gE (z 10000) g:=by rw[L];exact fz.2 rfl
  obtain⟨G,uq⟩:=QO g hin;have hlt:g<w.heap.size:=(cO.1 hg).1;have F:∀(j:Nat) (O:j<l.length),cur[j]? =some (encStr l[j]):=by
   intro j O;have h1:(cur.toList.take l.length)[j]? =some (encStr l[j]):=by rw[q,dz,aW O];rfl
   rw[mI,ak O] at h1;simpa using h1
  have hH:Go.Sort.Holds encStr w g 0 l.toArray:=by
   intro j O;have Q:j<l.length:=by simpa using O
   have hcj:=F j Q;rw[fW];refine⟨?_,?_⟩
   .unfold World.cell?;simp only[hg];simp[hcj,Q]
   .unfold World.frozen?;simp[hg]
  have hc:Calls P 180 #[.slice (some ⟨g,0,none⟩) l.length N] w λe K=>e= .returned (.tuple #[])/\∃n os,K=Go.Sort.grow (Go.Sort.putRow encStr (Go.Sort.ahead w n) g 0 (l.mergeSort λx y=>decide (x<=y)).toArray) os:=Any.slices_Sort_string Tryz.lays190 g 0 N l w hH hlt af
  rw[L];refine hc.mono ?_;rintro e K ⟨rfl,n,os,rfl⟩;rw[HV];have I:(jB Op.bytesLess l).length=l.length:=(oT Op.bytesLess (λa b h=>r7 h) za l).2.length_eq;obtain⟨k1,k2,k3⟩:=BO (enc:=encStr) (n:=n) (d:=(jB Op.bytesLess l).toArray) (os:=os) hg;obtain⟨t1,t2⟩:=IU (enc:=encStr) (l:=jB Op.bytesLess l) (cur:=cur) af;refine⟨_,μ,z,rfl,D4 (cur:=cur) (us:=(jB Op.bytesLess l).map encStr) D L B R (by rw[tC];exact W) G uq k1 t1 (by rw[tC,<-I];exact t2) (by simp[I]) k2 rfl rfl rfl k3 (by simp[I]) (wN.2 rfl)⟩
