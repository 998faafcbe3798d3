/-
  The contract of strings.Trim at this program: laid out of the shelf. No condition.
-/
import Derived.Test.YtnpbglnfnhejiaaGreatDoorProg
import Derived.Test.YtnpbglnfnhejiaaGreatDoorHM5Absc
import Derived.KernelRfl
import Derived.Shelf.Strings.SlTrimAscii
namespace Go.Proofs.YtnpbglnfnhejiaaGreatDoor
open Go Go.Shelf Go.Abs
def Tryz.lays160_ren : Go.Shelf.Ren:=⟨fun | 160=>41 | 232=>87 | 231=>86 | 227=>88 | 234=>90 | 233=>89 | 236=>92 | 235=>91 | 228=>137 | 271=>140 | 151=>139 | 197=>138 | 120=>184 | 152=>183 | 260=>182 | 137=>99 | 119=>214 | 224=>215 | 225=>216 | 217=>143 | 266=>188 | n=>n,fun | 9=>9 | 4=>4 | 3=>3 | 5=>5 | 117=>145 | 116=>144 | 0=>0 | 124=>148 | 21=>21 | 105=>195 | 46=>128 | 119=>243 | 139=>246 | 138=>245 | n=>n,fun | 3=>1 | 4=>2 | n=>n⟩
theorem Tryz.lays160 : Go.Proofs.Lays.n160 Tryz.prog Tryz.lays160_ren:={
  mixed:=by kernel_rfl
  f119:=Tryz.func214.trans (congrArg some (by kernel_rfl))
  f120:=Tryz.func184.trans (congrArg some (by kernel_rfl))
  f137:=Tryz.func99.trans (congrArg some (by kernel_rfl))
  f151:=Tryz.func139.trans (congrArg some (by kernel_rfl))
  f152:=Tryz.func183.trans (congrArg some (by kernel_rfl))
  f160:=Tryz.func41.trans (congrArg some (by kernel_rfl))
  f197:=Tryz.func138.trans (congrArg some (by kernel_rfl))
  f217:=Tryz.func143.trans (congrArg some (by kernel_rfl))
  f224:=Tryz.func215.trans (congrArg some (by kernel_rfl))
  f225:=Tryz.func216.trans (congrArg some (by kernel_rfl))
  f227:=Tryz.func88.trans (congrArg some (by kernel_rfl))
  f228:=Tryz.func137.trans (congrArg some (by kernel_rfl))
  f231:=Tryz.func86.trans (congrArg some (by kernel_rfl))
  f232:=Tryz.func87.trans (congrArg some (by kernel_rfl))
  f233:=Tryz.func89.trans (congrArg some (by kernel_rfl))
  f234:=Tryz.func90.trans (congrArg some (by kernel_rfl))
  f235:=Tryz.func91.trans (congrArg some (by kernel_rfl))
  f236:=Tryz.func92.trans (congrArg some (by kernel_rfl))
  f260:=Tryz.func182.trans (congrArg some (by kernel_rfl))
  f266:=Tryz.func188.trans (congrArg some (by kernel_rfl))
  f271:=Tryz.func140.trans (congrArg some (by kernel_rfl))
  t0:=Tryz.underlying0
  a0:=Tryz.isAgg0
  z0:=Tryz.sizeOf0
  v0:=Tryz.zeroValue0
  t3:=Tryz.underlying3
  a3:=Tryz.isAgg3
  z3:=Tryz.sizeOf3
  v3:=Tryz.zeroValue3
  t4:=Tryz.underlying4
  a4:=Tryz.isAgg4
  z4:=Tryz.sizeOf4
  v4:=Tryz.zeroValue4
  t5:=Tryz.underlying5
  a5:=Tryz.isAgg5
  z5:=Tryz.sizeOf5
  v5:=Tryz.zeroValue5
  t9:=Tryz.underlying9
  a9:=Tryz.isAgg9
  z9:=Tryz.sizeOf9
  v9:=Tryz.zeroValue9
  t21:=Tryz.underlying21
  a21:=Tryz.isAgg21
  z21:=Tryz.sizeOf21
  v21:=Tryz.zeroValue21
  t46:=Tryz.underlying128
  a46:=Tryz.isAgg128
  z46:=Tryz.sizeOf128
  v46:=Tryz.zeroValue128
  t105:=Tryz.underlying195
  a105:=Tryz.isAgg195
  z105:=Tryz.sizeOf195
  v105:=Tryz.zeroValue195
  t116:=Tryz.underlying144
  a116:=Tryz.isAgg144
  z116:=Tryz.sizeOf144
  t117:=Tryz.underlying145
  a117:=Tryz.isAgg145
  z117:=Tryz.sizeOf145
  v117:=Tryz.zeroValue145
  t119:=Tryz.underlying243
  a119:=Tryz.isAgg243
  z119:=Tryz.sizeOf243
  t124:=Tryz.underlying148
  a124:=Tryz.isAgg148
  z124:=Tryz.sizeOf148
  v124:=Tryz.zeroValue148
  t138:=Tryz.underlying245
  a138:=Tryz.isAgg245
  z138:=Tryz.sizeOf245
  v138:=Tryz.zeroValue245
  t139:=Tryz.underlying246
  a139:=Tryz.isAgg246
  z139:=Tryz.sizeOf246
  v139:=Tryz.zeroValue246
  g3:=by kernel_rfl
  g4:=by kernel_rfl }

theorem trim_ok : XOk Tryz.prog 41 .trim :=
  ⟨enters_of Tryz.func41 (by kernel_rfl) rfl,fun s cs w h1 h2 h3=>Any.strings_Trim_laid Tryz.lays160 (by kernel_rfl) s cs w h1 h2 h3⟩
end Go.Proofs.YtnpbglnfnhejiaaGreatDoor
