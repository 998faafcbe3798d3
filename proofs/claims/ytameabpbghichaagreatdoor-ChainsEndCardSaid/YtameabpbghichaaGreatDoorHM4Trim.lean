/-
  The contract of strings.Trim at this program: laid out of the shelf. No condition.
-/
import Derived.Test.YtameabpbghichaaGreatDoorProg
import Derived.Test.YtameabpbghichaaGreatDoorHM4Absc
import Derived.KernelRfl
import Derived.Shelf.Strings.SlTrimAscii
namespace Go.Proofs.YtameabpbghichaaGreatDoor
open Go Go.Shelf Go.Abs
def Tryz.lays160_ren:Go.Shelf.Ren:=⟨fun|160=>40|232=>90|231=>89|227=>91|234=>93|233=>92|236=>95|235=>94|228=>142|271=>145|151=>144|197=>143|120=>189|152=>188|260=>187|137=>148|119=>209|224=>210|225=>211|217=>191|266=>214|n=>n,fun|9=>9|4=>4|3=>3|5=>5|117=>182|116=>181|0=>0|124=>185|21=>21|105=>242|46=>164|119=>299|139=>302|138=>301|n=>n,fun|3=>2|4=>3|n=>n⟩
theorem Tryz.lays160:Go.Proofs.Lays.n160 Tryz.prog Tryz.lays160_ren:={
  mixed:=by kernel_rfl
  f119:=Tryz.func209.trans (congrArg some (by kernel_rfl))
  f120:=Tryz.func189.trans (congrArg some (by kernel_rfl))
  f137:=Tryz.func148.trans (congrArg some (by kernel_rfl))
  f151:=Tryz.func144.trans (congrArg some (by kernel_rfl))
  f152:=Tryz.func188.trans (congrArg some (by kernel_rfl))
  f160:=Tryz.func40.trans (congrArg some (by kernel_rfl))
  f197:=Tryz.func143.trans (congrArg some (by kernel_rfl))
  f217:=Tryz.func191.trans (congrArg some (by kernel_rfl))
  f224:=Tryz.func210.trans (congrArg some (by kernel_rfl))
  f225:=Tryz.func211.trans (congrArg some (by kernel_rfl))
  f227:=Tryz.func91.trans (congrArg some (by kernel_rfl))
  f228:=Tryz.func142.trans (congrArg some (by kernel_rfl))
  f231:=Tryz.func89.trans (congrArg some (by kernel_rfl))
  f232:=Tryz.func90.trans (congrArg some (by kernel_rfl))
  f233:=Tryz.func92.trans (congrArg some (by kernel_rfl))
  f234:=Tryz.func93.trans (congrArg some (by kernel_rfl))
  f235:=Tryz.func94.trans (congrArg some (by kernel_rfl))
  f236:=Tryz.func95.trans (congrArg some (by kernel_rfl))
  f260:=Tryz.func187.trans (congrArg some (by kernel_rfl))
  f266:=Tryz.func214.trans (congrArg some (by kernel_rfl))
  f271:=Tryz.func145.trans (congrArg some (by kernel_rfl))
  t0:=Tryz.underlying0
  a0:=Tryz.isAgg0
  z0:=Tryz.sizeOf0
  v0:=Tryz.zeroValue0
  t3:=Tryz.underlying3
  a3:=Tryz.isAgg3
  z3:=Tryz.sizeOf3
  v3:=Tryz.zeroValue3
  t4:=Tryz.underlying4
  a4:=Tryz.isAgg4
  z4:=Tryz.sizeOf4
  v4:=Tryz.zeroValue4
  t5:=Tryz.underlying5
  a5:=Tryz.isAgg5
  z5:=Tryz.sizeOf5
  v5:=Tryz.zeroValue5
  t9:=Tryz.underlying9
  a9:=Tryz.isAgg9
  z9:=Tryz.sizeOf9
  v9:=Tryz.zeroValue9
  t21:=Tryz.underlying21
  a21:=Tryz.isAgg21
  z21:=Tryz.sizeOf21
  v21:=Tryz.zeroValue21
  t46:=Tryz.underlying164
  a46:=Tryz.isAgg164
  z46:=Tryz.sizeOf164
  v46:=Tryz.zeroValue164
  t105:=Tryz.underlying242
  a105:=Tryz.isAgg242
  z105:=Tryz.sizeOf242
  v105:=Tryz.zeroValue242
  t116:=Tryz.underlying181
  a116:=Tryz.isAgg181
  z116:=Tryz.sizeOf181
  t117:=Tryz.underlying182
  a117:=Tryz.isAgg182
  z117:=Tryz.sizeOf182
  v117:=Tryz.zeroValue182
  t119:=Tryz.underlying299
  a119:=Tryz.isAgg299
  z119:=Tryz.sizeOf299
  t124:=Tryz.underlying185
  a124:=Tryz.isAgg185
  z124:=Tryz.sizeOf185
  v124:=Tryz.zeroValue185
  t138:=Tryz.underlying301
  a138:=Tryz.isAgg301
  z138:=Tryz.sizeOf301
  v138:=Tryz.zeroValue301
  t139:=Tryz.underlying302
  a139:=Tryz.isAgg302
  z139:=Tryz.sizeOf302
  v139:=Tryz.zeroValue302
  g3:=by kernel_rfl
  g4:=by kernel_rfl }
theorem trim_ok:XOk Tryz.prog 40 .trim :=
  ⟨enters_of Tryz.func40 (by kernel_rfl) rfl,fun s cs w h1 h2 h3=>Any.strings_Trim_laid Tryz.lays160 (by kernel_rfl) s cs w h1 h2 h3⟩
end Go.Proofs.YtameabpbghichaaGreatDoor
