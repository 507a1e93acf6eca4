/- The laws that compile declarations. -/
import Derived.Test.YthppjmoncapdfaaGreatDoorClXv
import Derived.Test.YthppjmoncapdfaaGreatDoorClEi
import Derived.Test.YthppjmoncapdfaaGreatDoorClXb
import Derived.Shelf.Strings.OnBuilder
import Derived.Shelf.Sort.Plain
import Derived.Shelf.Slices.In.SortNone
import Derived.Shelf.SlSortCmp.WholeK
import Derived.Shelf.SlSortCmp.NoneTotal
import Derived.Shelf.Spec.TrailingZeros
import Derived.Ground.Names2Prog
import Derived.Ground.SlsfProg
import Derived.Ground.Names7Prog
import Derived.Test.YthppjmoncapdfaaGreatDoorProg
import Derived.Test.YthppjmoncapdfaaGreatDoorClT
set_option linter.all false
set_option maxRecDepth 100000
namespace Go.Proofs.YthppjmoncapdfaaGreatDoor.cl.pf
open Go Go.AM
def law393 {d:List aB} (z:Sz d) (l:Fz d) (s:FSt) (D:List FSt):f393 d s D=some true:=l393 (ZH z l) Kr ZG s D
def law394 {d:List aB} (z:Sz d) (l:Fz d) (s:FSt) (D:List FSt):f394 d s D=some true:=l394 (ZH z l) Kr ZG s D
def law395 {d:List aB} (z:Sz d) (l:Fz d) (s:FSt) (D:List FSt):f395 d s D=some true:=l395 (ZH z l) Kr ZG s D
def law396 {d:List aB} (z:Sz d) (l:Fz d) (f:FSt):f396 d f=some true:=l396 (ZH z l) Kr ZG f
def law397 {d:List aB} (z:Sz d) (l:Fz d) (s:FSt) (D:List FSt):f397 d s D=some true:=l397 (ZH z l) Kr ZG s D
end Go.Proofs.YthppjmoncapdfaaGreatDoor.cl.pf
set_option maxRecDepth 100000
namespace Go.Proofs.YthppjmoncapdfaaGreatDoor.cl
open Go Go.AM Go.RowKit Go.ChangeShapes Go.WideShapes Go.ChangeAt
section
variable {H:Type} {enc:TypeId×Value->H} {w:World}
def NN {T:Type} {z:T->List AV} {t e sz:Nat} (F:P.underlying t=some (.slice e)) (D:P.cellsOf e=sz) (B:0<sz) {n:Nat} (h:∀n,CD enc P w Rows.uptoBulk n e λq=>∃x:T,q=z x):CD enc P w Rows.uptoBulk n t λq=>∃l:List T,q=[.dK sz (l.map z)]:=by cases n with
 |zero=>exact CD.zero
 |succ n=>refine(Jr uM (sz:=sz) F D B (h n)).mono ?_;rintro a ⟨xs,rfl,G⟩;obtain⟨l,rfl⟩:=B2 G;exact⟨l,rfl⟩
def rd93 (n:Nat):CD enc P w Rows.uptoBulk n 93 λl=>∃x:bT,l=x.enc:=by cases n with
 |zero=>exact CD.zero
 |succ n=>
  refine(xg uM (Qs:=[λa=>∃x,a=jv x,λa=>∃x,a=jv x]) Tryz.underlying93 (by kernel_rfl) (by kernel_rfl) ?_).mono ?_
  .exact⟨NP uM Tryz.underlying9,NP uM Tryz.underlying9,trivial⟩
  .rintro a ⟨_,_,rfl,⟨s,rfl⟩,_,_,rfl,⟨v,rfl⟩,rfl⟩;exact⟨⟨s,v⟩,rfl⟩
def rd90 (n:Nat):CD enc P w Rows.uptoBulk n 90 λq=>∃x:aB,q=x.enc:=by cases n with
 |zero=>exact CD.zero
 |succ n=>
  refine(xg uM (Qs:=[λa=>∃x,a=jv x,λa=>∃l:List (List UInt8),a=[.dK 1 (l.map jv)],λa=>∃l:List bT,a=[.dK 2 (l.map bT.enc)]]) Tryz.underlying90 (by kernel_rfl) (by kernel_rfl) ?_).mono ?_
  .exact⟨NP uM Tryz.underlying9,NN Tryz.underlying87 (by kernel_rfl) (by decide) λn=>NP uM (n:=n) Tryz.underlying9,NN Tryz.underlying88 (by kernel_rfl) (by decide) rd93,trivial⟩
  .rintro a ⟨_,_,rfl,⟨s,rfl⟩,_,_,rfl,⟨l,rfl⟩,_,_,rfl,⟨m,rfl⟩,rfl⟩;exact⟨⟨s,l,m⟩,rfl⟩
variable {base:Nat} {Jq:Reach} {v:Value} {d:DataW H} {ps:List MemPlace}
def wK (z:Value.okWide Tryz.prog w Jq base 30 v) (F:DataW.Trod enc Tryz.prog w 0 (λ_=>true) true 30 v d ps):∃l:List aB,rep (UA w) (.dK 3 (l.map aB.enc)) v/\y5 (l.map aB.enc)<=Rows.uptoBulk d:=by
 obtain⟨ad,len,B,rfl⟩:=okWide_slice Tryz.underlying30 z;obtain⟨a,⟨l,q⟩,G,D,_⟩:=Vs rfl F λn=>NN (n:=n) (sz:=3) Tryz.underlying30 (by kernel_rfl) (by decide) rd90
 injection q with q;subst q;exact⟨l,G,by simp only[AV.bulk] at D;omega⟩
def GM (z:Value.okWide Tryz.prog w Jq base 28 v) (D:DataW.Trod enc Tryz.prog w 0 (λ_=>true) true 28 v d ps):∃l:List FSt,rep (UA w) (.dK 1 (l.map FSt.enc)) v:=by
 obtain⟨ad,len,B,rfl⟩:=okWide_slice Tryz.underlying28 z;obtain⟨a,⟨l,q⟩,F,G,_⟩:=Vs rfl D λn=>NN (n:=n) (sz:=1) Tryz.underlying28 (by kernel_rfl) (by decide) YC
 injection q with q;subst q;exact⟨l,F⟩
end
def Dj {T:Type} {en:T->List AV} (h:∀x,1<=mI (en x)):∀l:List T,l.length<=y5 (l.map en)
 |[]=>by simp
 |x::l=>by have q:=Dj h l;have z:=h x;simp only[aS,bg,y5];omega
def Sc {d:List aB} (h:y5 (d.map aB.enc)<=1048576):Sz d/\Fz d:=by
 have key:∀t∈d,t.dH.length<=1048576/\t.cE.length<=1048576:=λt l=>by have q:=XC (iQ (f:=aB.enc) l);have z:=Dj (en:=jv) (λx=>by simp only[jv,mI,AV.bulk];omega) t.dH;have B:=Dj (en:=bT.enc) (λx=>by simp only[bT.enc,mI,AV.bulk];omega) t.cE;simp only[aB.enc,mI,AV.bulk] at q;omega
 have D:=Dj (en:=aB.enc) (λx=>by simp only[aB.enc,mI,AV.bulk];omega) d;exact⟨⟨af,λt l=>(key t l).1⟩,λt l=>(key t l).2⟩
end Go.Proofs.YthppjmoncapdfaaGreatDoor.cl
namespace Go.Proofs
open Go.Shelf
def Tryz.FY:Go.Shelf.Ren:=⟨λ|156=>128|165=>187|166=>188|169=>189|240=>238|241=>239|276=>278|277=>279|n=>n,λ|31=>87|9=>9|3=>3|4=>4|0=>0|20=>20|72=>227|76=>230|70=>224|37=>225|75=>229|127=>266|164=>296|5=>5|80=>232|n=>n,λ|n=>n⟩
def Tryz.lays156:Go.Proofs.Lays.n156 Tryz.prog Tryz.FY:={
 mixed:=by kernel_rfl
 f156:=Tryz.func128.trans (aK some (by kernel_rfl))
 f165:=Tryz.func187.trans (aK some (by kernel_rfl))
 f166:=Tryz.func188.trans (aK some (by kernel_rfl))
 f169:=Tryz.func189.trans (aK some (by kernel_rfl))
 f240:=Tryz.func238.trans (aK some (by kernel_rfl))
 f241:=Tryz.func239.trans (aK some (by kernel_rfl))
 f276:=Tryz.func278.trans (aK some (by kernel_rfl))
 f277:=Tryz.func279.trans (aK some (by kernel_rfl))
 t0:=Tryz.underlying0
 a0:=Tryz.isAgg0
 z0:=Tryz.sizeOf0
 v0:=Tryz.zeroValue0
 t3:=Tryz.underlying3
 a3:=Tryz.isAgg3
 z3:=Tryz.sizeOf3
 v3:=Tryz.zeroValue3
 t4:=Tryz.underlying4
 a4:=Tryz.isAgg4
 z4:=Tryz.sizeOf4
 v4:=Tryz.zeroValue4
 t9:=Tryz.underlying9
 a9:=Tryz.isAgg9
 z9:=Tryz.sizeOf9
 v9:=Tryz.zeroValue9
 t20:=Tryz.underlying20
 a20:=Tryz.isAgg20
 z20:=Tryz.sizeOf20
 v20:=Tryz.zeroValue20
 t31:=Tryz.underlying87
 a31:=Tryz.isAgg87
 z31:=Tryz.sizeOf87
 v31:=Tryz.zeroValue87
 t37:=Tryz.underlying225
 a37:=Tryz.isAgg225
 z37:=Tryz.sizeOf225
 v37:=Tryz.zeroValue225
 t70:=Tryz.underlying224
 a70:=Tryz.isAgg224
 z70:=Tryz.sizeOf224
 v70:=Tryz.zeroValue224
 t72:=Tryz.underlying227
 a72:=Tryz.isAgg227
 z72:=Tryz.sizeOf227
 v72:=Tryz.zeroValue227
 t75:=Tryz.underlying229
 a75:=Tryz.isAgg229
 z75:=Tryz.sizeOf229
 v75:=Tryz.zeroValue229
 t76:=Tryz.underlying230
 a76:=Tryz.isAgg230
 z76:=Tryz.sizeOf230
 v76:=Tryz.zeroValue230
 t127:=Tryz.underlying266
 a127:=Tryz.isAgg266
 z127:=Tryz.sizeOf266
 v127:=Tryz.zeroValue266
 t164:=Tryz.underlying296
 a164:=Tryz.isAgg296
 z164:=Tryz.sizeOf296
 v164:=Tryz.zeroValue296 }
def Tryz.vq:Builder.Extra Tryz.prog Tryz.FY:={
 sizeBuilder:=by kernel_rfl
 liesBuilder:=by kernel_rfl
 t5:=Tryz.underlying5
 a5:=Tryz.isAgg5
 z5:=Tryz.sizeOf5
 v5:=Tryz.zeroValue5
 infoByte:=by kernel_rfl
 cellsByte:=by kernel_rfl
 sizeByte:=by kernel_rfl
 neB5:=by decide }
open Go.RowKit in
def Tryz.strings_Join_none (a:Option Addr) (c:Nat) (l:ByteArray) (w:World):
  Calls Tryz.prog 128 #[.slice a 0 c, .string l] w λe q=>e= .returned (.string ⟨#[]⟩)/\q=w:=Any.strings_Join_none Tryz.lays156 Tryz.vq a c l w
open Go.RowKit in
def Tryz.strings_Join (bk o c:Nat) (xs:List ByteArray) (q:ByteArray) (w:World) (l:∀(j:Nat) x,xs[j]? =some x->w.cell? ⟨bk,o+j,none⟩=some (.string x)) (D:bk<w.heap.size) (F:xs.length<=140737488355328) (z:xs.length<=c) (B:(Lib.join (xs.map (·.data.toList)) q.data.toList).length<=140737488355328):
  Calls Tryz.prog 128 #[.slice (some ⟨bk,o,none⟩) xs.length c, .string q] w λe G=>e= .returned (.string ⟨(Lib.join (xs.map (·.data.toList)) q.data.toList).toArray⟩)/\Below w.heap.size w G:=Any.strings_Join Tryz.lays156 Tryz.vq bk o c xs q w l D F z B
def Tryz.Rc:Go.Shelf.Ren:=⟨λ|190=>180|125=>197|258=>235|128=>251|129=>252|302=>270|303=>271|304=>272|305=>273|306=>274|307=>275|308=>236|309=>276|310=>277|333=>297|329=>281|330=>282|334=>298|335=>299|336=>200|344=>306|n=>n,λ|31=>87|9=>9|3=>3|46=>240|0=>0|51=>278|53=>164|4=>4|183=>272|182=>271|131=>79|5=>5|218=>299|222=>303|228=>314|229=>315|n=>n,λ|n=>n⟩
def Tryz.lays190:Go.Proofs.Lays.n190 Tryz.prog Tryz.Rc:={
 mixed:=by kernel_rfl
 f125:=Tryz.func197.trans (aK some (by kernel_rfl))
 f128:=Tryz.func251.trans (aK some (by kernel_rfl))
 f129:=Tryz.func252.trans (aK some (by kernel_rfl))
 f190:=Tryz.func180.trans (aK some (by kernel_rfl))
 f258:=Tryz.func235.trans (aK some (by kernel_rfl))
 f302:=Tryz.func270.trans (aK some (by kernel_rfl))
 f303:=Tryz.func271.trans (aK some (by kernel_rfl))
 f304:=Tryz.func272.trans (aK some (by kernel_rfl))
 f305:=Tryz.func273.trans (aK some (by kernel_rfl))
 f306:=Tryz.func274.trans (aK some (by kernel_rfl))
 f307:=Tryz.func275.trans (aK some (by kernel_rfl))
 f308:=Tryz.func236.trans (aK some (by kernel_rfl))
 f309:=Tryz.func276.trans (aK some (by kernel_rfl))
 f310:=Tryz.func277.trans (aK some (by kernel_rfl))
 f329:=Tryz.func281.trans (aK some (by kernel_rfl))
 f330:=Tryz.func282.trans (aK some (by kernel_rfl))
 f333:=Tryz.func297.trans (aK some (by kernel_rfl))
 f334:=Tryz.func298.trans (aK some (by kernel_rfl))
 f335:=Tryz.func299.trans (aK some (by kernel_rfl))
 f336:=Tryz.func200.trans (aK some (by kernel_rfl))
 f344:=Tryz.func306.trans (aK some (by kernel_rfl))
 t0:=Tryz.underlying0
 a0:=Tryz.isAgg0
 z0:=Tryz.sizeOf0
 v0:=Tryz.zeroValue0
 t3:=Tryz.underlying3
 a3:=Tryz.isAgg3
 z3:=Tryz.sizeOf3
 v3:=Tryz.zeroValue3
 t4:=Tryz.underlying4
 a4:=Tryz.isAgg4
 z4:=Tryz.sizeOf4
 v4:=Tryz.zeroValue4
 t5:=Tryz.underlying5
 a5:=Tryz.isAgg5
 z5:=Tryz.sizeOf5
 v5:=Tryz.zeroValue5
 t9:=Tryz.underlying9
 a9:=Tryz.isAgg9
 z9:=Tryz.sizeOf9
 v9:=Tryz.zeroValue9
 t31:=Tryz.underlying87
 a31:=Tryz.isAgg87
 z31:=Tryz.sizeOf87
 v31:=Tryz.zeroValue87
 t46:=Tryz.underlying240
 a46:=Tryz.isAgg240
 z46:=Tryz.sizeOf240
 v46:=Tryz.zeroValue240
 t51:=Tryz.underlying278
 a51:=Tryz.isAgg278
 z51:=Tryz.sizeOf278
 v51:=Tryz.zeroValue278
 t53:=Tryz.underlying164
 a53:=Tryz.isAgg164
 z53:=Tryz.sizeOf164
 v53:=Tryz.zeroValue164
 t131:=Tryz.underlying79
 a131:=Tryz.isAgg79
 z131:=Tryz.sizeOf79
 v131:=Tryz.zeroValue79
 t182:=Tryz.underlying271
 a182:=Tryz.isAgg271
 z182:=Tryz.sizeOf271
 v182:=Tryz.zeroValue271
 t183:=Tryz.underlying272
 a183:=Tryz.isAgg272
 z183:=Tryz.sizeOf272
 v183:=Tryz.zeroValue272
 t218:=Tryz.underlying299
 a218:=Tryz.isAgg299
 z218:=Tryz.sizeOf299
 v218:=Tryz.zeroValue299
 t222:=Tryz.underlying303
 a222:=Tryz.isAgg303
 z222:=Tryz.sizeOf303
 v222:=Tryz.zeroValue303
 t228:=Tryz.underlying314
 a228:=Tryz.isAgg314
 z228:=Tryz.sizeOf314
 v228:=Tryz.zeroValue314
 t229:=Tryz.underlying315
 a229:=Tryz.isAgg315
 z229:=Tryz.sizeOf315
 v229:=Tryz.zeroValue315 }
def Tryz.Uo:Go.Shelf.Ren:=⟨λ|6=>130|15=>197|14=>196|28=>251|29=>252|20=>243|21=>244|22=>245|23=>246|24=>247|25=>248|26=>249|27=>250|46=>280|47=>281|48=>282|49=>283|50=>284|57=>300|n=>n,λ|22=>106|24=>112|25=>186|3=>3|39=>240|0=>0|53=>278|55=>164|4=>4|46=>272|45=>271|50=>79|5=>5|9=>9|66=>299|70=>303|76=>314|77=>315|n=>n,λ|n=>n⟩
def Tryz.laysF6:Go.Proofs.SlLaysF0.n6 Tryz.prog Tryz.Uo:={
 mixed:=by kernel_rfl
 f6:=⟨Tryz.f130.name,by decide,Tryz.func130.trans (aK some (by kernel_rfl))⟩
 f14:=⟨Tryz.f196.name,by decide,Tryz.func196.trans (aK some (by kernel_rfl))⟩
 f15:=Tryz.func197.trans (aK some (by kernel_rfl))
 f20:=⟨Tryz.f243.name,by decide,Tryz.func243.trans (aK some (by kernel_rfl))⟩
 f21:=⟨Tryz.f244.name,by decide,Tryz.func244.trans (aK some (by kernel_rfl))⟩
 f22:=⟨Tryz.f245.name,by decide,Tryz.func245.trans (aK some (by kernel_rfl))⟩
 f23:=⟨Tryz.f246.name,by decide,Tryz.func246.trans (aK some (by kernel_rfl))⟩
 f24:=⟨Tryz.f247.name,by decide,Tryz.func247.trans (aK some (by kernel_rfl))⟩
 f25:=⟨Tryz.f248.name,by decide,Tryz.func248.trans (aK some (by kernel_rfl))⟩
 f26:=⟨Tryz.f249.name,by decide,Tryz.func249.trans (aK some (by kernel_rfl))⟩
 f27:=⟨Tryz.f250.name,by decide,Tryz.func250.trans (aK some (by kernel_rfl))⟩
 f28:=Tryz.func251.trans (aK some (by kernel_rfl))
 f29:=Tryz.func252.trans (aK some (by kernel_rfl))
 f46:=⟨Tryz.f280.name,by decide,Tryz.func280.trans (aK some (by kernel_rfl))⟩
 f47:=Tryz.func281.trans (aK some (by kernel_rfl))
 f48:=Tryz.func282.trans (aK some (by kernel_rfl))
 f49:=⟨Tryz.f283.name,by decide,Tryz.func283.trans (aK some (by kernel_rfl))⟩
 f50:=⟨Tryz.f284.name,by decide,Tryz.func284.trans (aK some (by kernel_rfl))⟩
 f57:=⟨Tryz.f300.name,by decide,Tryz.func300.trans (aK some (by kernel_rfl))⟩
 t0:=Tryz.underlying0
 a0:=Tryz.isAgg0
 z0:=Tryz.sizeOf0
 v0:=Tryz.zeroValue0
 t3:=Tryz.underlying3
 a3:=Tryz.isAgg3
 z3:=Tryz.sizeOf3
 v3:=Tryz.zeroValue3
 t4:=Tryz.underlying4
 a4:=Tryz.isAgg4
 z4:=Tryz.sizeOf4
 v4:=Tryz.zeroValue4
 t5:=Tryz.underlying5
 a5:=Tryz.isAgg5
 z5:=Tryz.sizeOf5
 v5:=Tryz.zeroValue5
 t9:=Tryz.underlying9
 a9:=Tryz.isAgg9
 z9:=Tryz.sizeOf9
 v9:=Tryz.zeroValue9
 t22:=Tryz.underlying106
 a22:=Tryz.isAgg106
 z22:=Tryz.sizeOf106
 v22:=Tryz.zeroValue106
 t25:=Tryz.underlying186
 a25:=Tryz.isAgg186
 z25:=Tryz.sizeOf186
 v25:=Tryz.zeroValue186
 t39:=Tryz.underlying240
 a39:=Tryz.isAgg240
 z39:=Tryz.sizeOf240
 v39:=Tryz.zeroValue240
 t45:=Tryz.underlying271
 a45:=Tryz.isAgg271
 z45:=Tryz.sizeOf271
 v45:=Tryz.zeroValue271
 t46:=Tryz.underlying272
 a46:=Tryz.isAgg272
 z46:=Tryz.sizeOf272
 v46:=Tryz.zeroValue272
 t50:=Tryz.underlying79
 a50:=Tryz.isAgg79
 z50:=Tryz.sizeOf79
 v50:=Tryz.zeroValue79
 t53:=Tryz.underlying278
 a53:=Tryz.isAgg278
 z53:=Tryz.sizeOf278
 v53:=Tryz.zeroValue278
 t55:=Tryz.underlying164
 a55:=Tryz.isAgg164
 z55:=Tryz.sizeOf164
 v55:=Tryz.zeroValue164
 t66:=Tryz.underlying299
 a66:=Tryz.isAgg299
 z66:=Tryz.sizeOf299
 v66:=Tryz.zeroValue299
 t70:=Tryz.underlying303
 a70:=Tryz.isAgg303
 z70:=Tryz.sizeOf303
 v70:=Tryz.zeroValue303
 t76:=Tryz.underlying314
 a76:=Tryz.isAgg314
 z76:=Tryz.sizeOf314
 v76:=Tryz.zeroValue314
 t77:=Tryz.underlying315
 a77:=Tryz.isAgg315
 z77:=Tryz.sizeOf315
 v77:=Tryz.zeroValue315 }
def Tryz.Re:Go.Shelf.Ren:=⟨λ|6=>213|15=>197|14=>255|28=>251|29=>252|20=>287|21=>288|22=>289|23=>290|24=>291|25=>292|26=>293|27=>294|46=>303|47=>281|48=>282|49=>304|50=>305|57=>307|n=>n,λ|22=>50|24=>54|25=>209|3=>3|39=>240|0=>0|53=>278|55=>164|4=>4|46=>272|45=>271|50=>79|5=>5|9=>9|66=>299|70=>303|76=>314|77=>315|n=>n,λ|n=>n⟩
def Tryz.laysF6a:Go.Proofs.SlLaysF0.n6 Tryz.prog Tryz.Re:={
 mixed:=by kernel_rfl
 f6:=⟨Tryz.f213.name,by decide,Tryz.func213.trans (aK some (by kernel_rfl))⟩
 f14:=⟨Tryz.f255.name,by decide,Tryz.func255.trans (aK some (by kernel_rfl))⟩
 f15:=Tryz.func197.trans (aK some (by kernel_rfl))
 f20:=⟨Tryz.f287.name,by decide,Tryz.func287.trans (aK some (by kernel_rfl))⟩
 f21:=⟨Tryz.f288.name,by decide,Tryz.func288.trans (aK some (by kernel_rfl))⟩
 f22:=⟨Tryz.f289.name,by decide,Tryz.func289.trans (aK some (by kernel_rfl))⟩
 f23:=⟨Tryz.f290.name,by decide,Tryz.func290.trans (aK some (by kernel_rfl))⟩
 f24:=⟨Tryz.f291.name,by decide,Tryz.func291.trans (aK some (by kernel_rfl))⟩
 f25:=⟨Tryz.f292.name,by decide,Tryz.func292.trans (aK some (by kernel_rfl))⟩
 f26:=⟨Tryz.f293.name,by decide,Tryz.func293.trans (aK some (by kernel_rfl))⟩
 f27:=⟨Tryz.f294.name,by decide,Tryz.func294.trans (aK some (by kernel_rfl))⟩
 f28:=Tryz.func251.trans (aK some (by kernel_rfl))
 f29:=Tryz.func252.trans (aK some (by kernel_rfl))
 f46:=⟨Tryz.f303.name,by decide,Tryz.func303.trans (aK some (by kernel_rfl))⟩
 f47:=Tryz.func281.trans (aK some (by kernel_rfl))
 f48:=Tryz.func282.trans (aK some (by kernel_rfl))
 f49:=⟨Tryz.f304.name,by decide,Tryz.func304.trans (aK some (by kernel_rfl))⟩
 f50:=⟨Tryz.f305.name,by decide,Tryz.func305.trans (aK some (by kernel_rfl))⟩
 f57:=⟨Tryz.f307.name,by decide,Tryz.func307.trans (aK some (by kernel_rfl))⟩
 t0:=Tryz.underlying0
 a0:=Tryz.isAgg0
 z0:=Tryz.sizeOf0
 v0:=Tryz.zeroValue0
 t3:=Tryz.underlying3
 a3:=Tryz.isAgg3
 z3:=Tryz.sizeOf3
 v3:=Tryz.zeroValue3
 t4:=Tryz.underlying4
 a4:=Tryz.isAgg4
 z4:=Tryz.sizeOf4
 v4:=Tryz.zeroValue4
 t5:=Tryz.underlying5
 a5:=Tryz.isAgg5
 z5:=Tryz.sizeOf5
 v5:=Tryz.zeroValue5
 t9:=Tryz.underlying9
 a9:=Tryz.isAgg9
 z9:=Tryz.sizeOf9
 v9:=Tryz.zeroValue9
 t22:=Tryz.underlying50
 a22:=Tryz.isAgg50
 z22:=Tryz.sizeOf50
 v22:=Tryz.zeroValue50
 t25:=Tryz.underlying209
 a25:=Tryz.isAgg209
 z25:=Tryz.sizeOf209
 v25:=Tryz.zeroValue209
 t39:=Tryz.underlying240
 a39:=Tryz.isAgg240
 z39:=Tryz.sizeOf240
 v39:=Tryz.zeroValue240
 t45:=Tryz.underlying271
 a45:=Tryz.isAgg271
 z45:=Tryz.sizeOf271
 v45:=Tryz.zeroValue271
 t46:=Tryz.underlying272
 a46:=Tryz.isAgg272
 z46:=Tryz.sizeOf272
 v46:=Tryz.zeroValue272
 t50:=Tryz.underlying79
 a50:=Tryz.isAgg79
 z50:=Tryz.sizeOf79
 v50:=Tryz.zeroValue79
 t53:=Tryz.underlying278
 a53:=Tryz.isAgg278
 z53:=Tryz.sizeOf278
 v53:=Tryz.zeroValue278
 t55:=Tryz.underlying164
 a55:=Tryz.isAgg164
 z55:=Tryz.sizeOf164
 v55:=Tryz.zeroValue164
 t66:=Tryz.underlying299
 a66:=Tryz.isAgg299
 z66:=Tryz.sizeOf299
 v66:=Tryz.zeroValue299
 t70:=Tryz.underlying303
 a70:=Tryz.isAgg303
 z70:=Tryz.sizeOf303
 v70:=Tryz.zeroValue303
 t76:=Tryz.underlying314
 a76:=Tryz.isAgg314
 z76:=Tryz.sizeOf314
 v76:=Tryz.zeroValue314
 t77:=Tryz.underlying315
 a77:=Tryz.isAgg315
 z77:=Tryz.sizeOf315
 v77:=Tryz.zeroValue315 }
def Tryz.Un:Go.Shelf.Ren:=⟨λ|29=>186|n=>n,λ|22=>164|3=>3|4=>4|25=>240|54=>265|0=>0|5=>5|n=>n,λ|1=>0|n=>n⟩
def Tryz.lays29:Go.Proofs.Lays7.n29 Tryz.prog Tryz.Un:={
 mixed:=by kernel_rfl
 f29:=Tryz.func186.trans (aK some (by kernel_rfl))
 t0:=Tryz.underlying0
 a0:=Tryz.isAgg0
 z0:=Tryz.sizeOf0
 v0:=Tryz.zeroValue0
 i0:=by kernel_rfl
 t3:=Tryz.underlying3
 a3:=Tryz.isAgg3
 z3:=Tryz.sizeOf3
 v3:=Tryz.zeroValue3
 i3:=by kernel_rfl
 t4:=Tryz.underlying4
 a4:=Tryz.isAgg4
 z4:=Tryz.sizeOf4
 v4:=Tryz.zeroValue4
 i4:=by kernel_rfl
 t5:=Tryz.underlying5
 a5:=Tryz.isAgg5
 z5:=Tryz.sizeOf5
 v5:=Tryz.zeroValue5
 i5:=by kernel_rfl
 t22:=Tryz.underlying164
 a22:=Tryz.isAgg164
 z22:=Tryz.sizeOf164
 v22:=Tryz.zeroValue164
 i22:=by kernel_rfl
 t25:=Tryz.underlying240
 a25:=Tryz.isAgg240
 z25:=Tryz.sizeOf240
 v25:=Tryz.zeroValue240
 i25:=by kernel_rfl
 t54:=Tryz.underlying265
 a54:=Tryz.isAgg265
 z54:=Tryz.sizeOf265
 g1:=by kernel_rfl }
end Go.Proofs
namespace Go.Proofs.YthppjmoncapdfaaGreatDoor.cl
open Go Go.AM Go.RowKit
def LV {U:Mu} {D:Nat->Value} {w K:World} {e L g n z:Nat} {V:List (List AV)} {us:List Value} {cur l:Array Value}
  (S:HA U w) (B:D 10000= .slice (some ⟨g,0,none⟩) n z) (N:n<=z) (O:z<=maxLen) (I:cur.size=z *L) (R:E6 w.heap.size (jJ False D [10000]) 10000 g) (P:∀j,U g j=none)
  (hg:K.heap[g]? =some (.cells l e (0,0))) (hs:l.size=cur.size) (By:l.toList.take (n *L)=us) (Lp:us.length=n *L) (G:∀b,b<w.heap.size->b≠g->K.heap[b]? =w.heap[b]?)
  (hos:K.os=w.os) (ht:K.tape=w.tape) (Q:K.output=w.output) (hgr:w.heap.size<=K.heap.size) (F:V.length=n) (hrc:c4 U L V us):
  fR False U D [10000] (.lR []) [(10000, .row e L V)] w (.tuple #[]) U D K where
 ext:=⟨Mu.le.refl _,λ_ _ _ h=> .inl h⟩
 uy:=λb j x hx=>by
  have h:=S b j x hx;have hne:b≠g:=λe=>by subst e;rw[P j] at hx;cases hx
  rw[fP (G b (lQ h) hne) j];exact h
 res:= .inl (by rw[rep.eq_def];exact⟨[],rfl,rfl⟩)
 obs:=λid o h=>by
  have hid:=lz h;subst hid;have ho:Ob.row e L V=o:=by simpa[find] using h
  subst ho;refine⟨us,⟨by rw[Lp,F], .inr ⟨g,z,l,by rw[B,F],cZ _,hg,by rw[F];exact N,O,by rw[hs,I],by rw[F];exact By⟩⟩,hrc,λq hq=> ?_⟩
  have:q=g:=by rw[B] at hq;have h2:some g=some q:=ia.1 hq;exact(cU h2).symm
  subst this;exact⟨R,P⟩
 apart:=λi j oi oj hi hj hij=>absurd ((lz hi).trans (lz hj).symm) hij
 keep:=λb hlt hl=>G b hlt (λe=>by
  subst e
  exact hl ⟨10000,D 10000,by simp[jJ],by rw[B];exact ia.2 rfl⟩)
 fix:=λ_ _ _=>rfl
 os:=hos
 tape:=ht
 output:=Q
 grown:=hgr
 drawn:=λh=>h.elim
end Go.Proofs.YthppjmoncapdfaaGreatDoor.cl
namespace Go.Proofs.YthppjmoncapdfaaGreatDoor.cl
open Go Go.AM Go.RowKit
def AE {I:Type} {lt:I->I->Bool}:∀{l q:List I},l.Perm q->lZ lt l->lZ lt q->(∀x∈l,∀y∈l,lt x y=false->lt y x=false->x=y)->l=q:=by intro l;induction l with
 |nil=>intro q h _ _ _;exact(List.nil_perm.1 h).symm
 |cons x l S=>intro q h N O K;cases q with
  |nil=>exact absurd h.symm ah
  |cons y q=>
   have z:=dA.1 N;have B:=dA.1 O;have F:x=y:=by
    have L:y∈x::l:=h.mem_iff.2 ah;have R:x∈y::q:=h.mem_iff.1 ah;rcases aG.1 L with e|G
    .exact e.symm
    .rcases aG.1 R with e|D
     .exact e
     .exact K x ah y L (B.1 x D) (z.1 y G)
   subst F;rw[S (List.Perm.cons_inv h) z.2 B.2 λa P b Q=>K a (by simp[P]) b (by simp[Q])]
def td {B:Type} (lt:B->B->Bool) (q:∀a b,lt a b=true->lt b a=false) (up:∀x y z,lt x y=true->lt z y=false->lt x z=true) (l:List B):lZ lt (lD lt l)/\(lD lt l).Perm l:=by
 have G:∀(x:B) (l:List B),(p7 lt x l).Perm (x::l):=by intro x l;induction l with
  |nil=>exact .refl _
  |cons y l F=>
   unfold p7;split
   .exact .refl _
   .exact(F.cons y).trans (.swap x y l)
 have key:∀(l E:List B),lZ lt E->lZ lt (l.foldl (λout x=>p7 lt x out) E)/\(l.foldl (λout x=>p7 lt x out) E).Perm (E++l):=by intro l;induction l with
  |nil=>intro E D;exact⟨D,ah⟩
  |cons p l F=>intro E D;obtain⟨I,K⟩:=F _ (zZ lt q up D (x:=p));refine⟨I,K.trans ?_⟩;exact((G p E).append_right l).trans (xY (a:=p) (l₁:=E) (l₂:=l)).symm
 have:=key l [] (by simp[lZ]);simpa[lD] using this
def EH (x y z:List UInt8) (h:Op.bytesLess x y=true) (l:Op.bytesLess z y=false):Op.bytesLess x z=true:=by
 by_cases e:z=y
 .rw[e];exact h
 .exact Dh _ _ _ h (zP _ _ l e)
end Go.Proofs.YthppjmoncapdfaaGreatDoor.cl
namespace Go.Proofs.YthppjmoncapdfaaGreatDoor.cl
open Go Go.AM Go.RowKit
def Rm (l:List (List UInt8)):(l.mergeSort λx y=>decide (x<=y))=lD Op.bytesLess l:=by
 have e:(λx y:List UInt8=>decide (x<=y))=λx y=> !Op.bytesLess y x:=by
  funext x y;rw[bytesLess_eq];by_cases h:y<x
  .have:¬x<=y:=λF=>F h
   simp[h,this]
  .have:x<=y:=h
   simp[h,this]
 rw[e];obtain⟨s1,s2⟩:=td Op.bytesLess (λa b h=>sZ h) EH l;refine AE ((List.mergeSort_perm l _).trans s2.symm) ?_ s1 ?_
 .have:=List.pairwise_mergeSort (le:=λx y:List UInt8=> !Op.bytesLess y x) (λa b c q z=>by
   simp only[iA] at q z⊢;cases B:Op.bytesLess c a with
   |false=>rfl
   |true=>
    have:=EH _ _ _ B q
    rw[z] at this;cases this) (λa b=>by
   cases B:Op.bytesLess b a with
   |false=>simp
   |true=>simp[sZ B]) l
  refine this.imp ?_;intro a b h;simpa using h
 .intro x _ y _ q z;apply dz;intro D;have:=zP _ _ q D;rw[z] at this;cases this
open Go.Sort in
def IB {z:Type} [Inhabited z] {enc:z->Value} {w:World} {n g:Nat} {d:Array z} {os:Array Obj} {cur:Array Value} {e:TypeId} (B:w.heap[g]? =some (.cells cur e (0,0))):
  (grow (putRow enc (Sort.ahead w n) g 0 d) os).heap[g]? =some (.cells (putCells enc 0 d cur) e (0,0))/\(∀b,b<w.heap.size->b≠g->(grow (putRow enc (Sort.ahead w n) g 0 d) os).heap[b]? =w.heap[b]?)/\w.heap.size<=(grow (putRow enc (Sort.ahead w n) g 0 d) os).heap.size:=by
 have l:g<w.heap.size:=(eE.1 B).1;have F:(grow (putRow enc (Sort.ahead w n) g 0 d) os).heap=w.heap.modify g (onCells (putCells enc 0 d))++os:=rfl;rw[F];refine⟨?_,λb D q=> ?_,?_⟩
 .rw[tT (by simpa using l),ya,az rfl,B];rfl
 .rw[tT (by simpa using D),ya,au (λh=>q h.symm)]
 .simp
open Go.Sort in
def Sk {z:Type} [Inhabited z] {enc:z->Value} {l:List z} {cur:Array Value} (h:l.length<=cur.size):(putCells enc 0 l.toArray cur).size=cur.size/\(putCells enc 0 l.toArray cur).toList.take l.length=l.map enc:=by
 refine⟨by simp[putCells],?_⟩;apply kq;intro i;by_cases q:i<l.length
 .rw[qw,az q,dF,aM q];have B:i<cur.size:=af;simp[putCells,q,B,aM q]
 .rw[fB aF,fB aF]
def BN {K:Mu}:∀{l:List (List UInt8)} {B:List Value},c4 K 1 (l.map jv) B↔B=l.map encStr:=by intro l;induction l with
 |nil=>intro B;exact Iff.rfl
 |cons s l F=>
  intro B;constructor
  .rintro⟨L,ws,rfl,z,_,G⟩;have q:=z.1;simp only[jv,cn] at q;obtain⟨u,I,rfl,D,rfl⟩:=q;rw[rep] at D;subst D;rw[F.1 G];rfl
  .rintro rfl;exact⟨[encStr s],l.map encStr,rfl,⟨⟨_,_,rfl,by rw[rep],rfl⟩,λu z=>by simp only[bX] at z;subst z;rfl⟩,rfl,F.2 rfl⟩
def LS {z:Mu} {l:Nat->Value} {w:World} {o:Ob} (q:HA z w) (F:lU w.heap.size (jJ False l [10000]) z l w 10000 o):fR False z l [10000] (.lR []) [(10000,o)] w (.tuple #[]) z l w where
 ext:=⟨Mu.le.refl _,λ_ _ _ h=> .inl h⟩
 uy:=q
 res:= .inl (by rw[rep.eq_def];exact⟨[],rfl,rfl⟩)
 obs:=λid L h=>by
  have B:=lz h;subst B;have K:o=L:=by simpa[find] using h
  subst K;exact F
 apart:=λi j N O G I D=>absurd ((lz G).trans (lz I).symm) D
 keep:=λ_ _ _=>rfl
 fix:=λ_ _ _=>rfl
 os:=rfl
 tape:=rfl
 output:=rfl
 grown:=aU _
 drawn:=λh=>h.elim
def sort80 {μ:Mu} {z:Nat->Value} {w:World} {l:List (List UInt8)} (hlen:l.length<=1073741824) (D:HA μ w) (R:lU w.heap.size (jJ False z [10000]) μ z w 10000 (.row 9 1 (l.map jv))):
  Calls P 180 #[z 10000] w λe K=>∃v μ' loc',e= .returned v/\fR False μ z [10000] (.lR []) [(10000, .row 9 1 ((lD Op.bytesLess l).map jv))] w v μ' loc' K:=by
 have S:=R;obtain⟨vs,U,hrc,X5⟩:=S;have hvs:=BN.1 hrc;rcases U.2 with⟨e1,h0⟩|⟨g,L,cur,e1,_,hg,B,Q,V,q⟩
 .have hl:l=[]:=by
   cases l with
   |nil=>rfl
   |cons a b=>simp at h0
  subst hl;have hc:Calls P 180 #[.slice none 0 0] w λe K=>e= .returned (.tuple #[])/\K=w:=Any.slices_Sort_string_none Tryz.lays190 none 0 w
  rw[e1];refine hc.mono ?_;rintro e K ⟨rfl,rfl⟩;exact⟨_,μ,z,rfl,LS D R⟩
 .have hll:(l.map jv).length=l.length:=ah;rw[hll] at e1 B q;rw[yb] at V q;rw[hvs] at q;have hin:jw (z 10000) g:=by rw[e1];exact ia.2 rfl
  obtain⟨G,xD⟩:=X5 g hin;have hlt:g<w.heap.size:=(eE.1 hg).1;have F:∀(j:Nat) (N:j<l.length),cur[j]? =some (encStr l[j]):=by
   intro j N;have h1:(cur.toList.take l.length)[j]? =some (encStr l[j]):=by rw[q,dF,aM N];rfl
   rw[qw,az N] at h1;simpa using h1
  have hH:Go.Sort.Holds encStr w g 0 l.toArray:=by
   intro j N;have O:j<l.length:=by simpa using N
   have hcj:=F j O;rw[gy];refine⟨?_,?_⟩
   .unfold World.cell?;simp only[hg];simp[hcj,O]
   .unfold World.frozen?;simp[hg]
  have hc:Calls P 180 #[.slice (some ⟨g,0,none⟩) l.length L] w λe K=>e= .returned (.tuple #[])/\∃n os,K=Go.Sort.grow (Go.Sort.putRow encStr (Go.Sort.ahead w n) g 0 (l.mergeSort λx y=>decide (x<=y)).toArray) os:=Any.slices_Sort_string Tryz.lays190 g 0 L l w hH hlt af
  rw[e1];refine hc.mono ?_;rintro e K ⟨rfl,n,os,rfl⟩;rw[Rm];have I:(lD Op.bytesLess l).length=l.length:=(td Op.bytesLess (λa b h=>sZ h) EH l).2.length_eq;obtain⟨k1,k2,k3⟩:=IB (enc:=encStr) (n:=n) (d:=(lD Op.bytesLess l).toArray) (os:=os) hg;obtain⟨t1,t2⟩:=Sk (enc:=encStr) (l:=lD Op.bytesLess l) (cur:=cur) af;refine⟨_,μ,z,rfl,LV (cur:=cur) (us:=(lD Op.bytesLess l).map encStr) D e1 B Q (by rw[yb];exact V) G xD k1 t1 (by rw[yb,<-I];exact t2) (by simp[I]) k2 rfl rfl rfl k3 (by simp[I]) (BN.2 rfl)⟩
