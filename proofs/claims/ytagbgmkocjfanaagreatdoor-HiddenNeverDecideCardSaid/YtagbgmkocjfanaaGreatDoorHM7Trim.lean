/-
  The contract of strings.Trim at this program: laid out of the shelf. No condition.
-/
import Derived.Test.YtagbgmkocjfanaaGreatDoorProg
import Derived.Test.YtagbgmkocjfanaaGreatDoorHM7Absc
import Derived.KernelRfl
import Derived.Shelf.Strings.SlTrimAscii
namespace Go.Proofs.YtagbgmkocjfanaaGreatDoor
open Go Go.Shelf Go.Abs
def Tryz.lays160_ren : Go.Shelf.Ren:=⟨fun | 160=>132 | 232=>181 | 231=>180 | 227=>182 | 234=>184 | 233=>183 | 236=>186 | 235=>185 | 228=>218 | 271=>221 | 151=>220 | 197=>219 | 120=>237 | 152=>236 | 260=>235 | 137=>141 | 119=>244 | 224=>245 | 225=>246 | 217=>191 | 266=>224 | n=>n,fun | 9=>9 | 4=>4 | 3=>3 | 5=>5 | 117=>290 | 116=>289 | 0=>0 | 124=>293 | 21=>21 | 105=>320 | 46=>265 | 119=>339 | 139=>342 | 138=>341 | n=>n,fun | 3=>2 | 4=>3 | n=>n⟩
theorem Tryz.lays160 : Go.Proofs.Lays.n160 Tryz.prog Tryz.lays160_ren:={
  mixed:=by kernel_rfl
  f119:=Tryz.func244.trans (congrArg some (by kernel_rfl))
  f120:=Tryz.func237.trans (congrArg some (by kernel_rfl))
  f137:=Tryz.func141.trans (congrArg some (by kernel_rfl))
  f151:=Tryz.func220.trans (congrArg some (by kernel_rfl))
  f152:=Tryz.func236.trans (congrArg some (by kernel_rfl))
  f160:=Tryz.func132.trans (congrArg some (by kernel_rfl))
  f197:=Tryz.func219.trans (congrArg some (by kernel_rfl))
  f217:=Tryz.func191.trans (congrArg some (by kernel_rfl))
  f224:=Tryz.func245.trans (congrArg some (by kernel_rfl))
  f225:=Tryz.func246.trans (congrArg some (by kernel_rfl))
  f227:=Tryz.func182.trans (congrArg some (by kernel_rfl))
  f228:=Tryz.func218.trans (congrArg some (by kernel_rfl))
  f231:=Tryz.func180.trans (congrArg some (by kernel_rfl))
  f232:=Tryz.func181.trans (congrArg some (by kernel_rfl))
  f233:=Tryz.func183.trans (congrArg some (by kernel_rfl))
  f234:=Tryz.func184.trans (congrArg some (by kernel_rfl))
  f235:=Tryz.func185.trans (congrArg some (by kernel_rfl))
  f236:=Tryz.func186.trans (congrArg some (by kernel_rfl))
  f260:=Tryz.func235.trans (congrArg some (by kernel_rfl))
  f266:=Tryz.func224.trans (congrArg some (by kernel_rfl))
  f271:=Tryz.func221.trans (congrArg some (by kernel_rfl))
  t0:=Tryz.underlying0
  a0:=Tryz.isAgg0
  z0:=Tryz.sizeOf0
  v0:=Tryz.zeroValue0
  t3:=Tryz.underlying3
  a3:=Tryz.isAgg3
  z3:=Tryz.sizeOf3
  v3:=Tryz.zeroValue3
  t4:=Tryz.underlying4
  a4:=Tryz.isAgg4
  z4:=Tryz.sizeOf4
  v4:=Tryz.zeroValue4
  t5:=Tryz.underlying5
  a5:=Tryz.isAgg5
  z5:=Tryz.sizeOf5
  v5:=Tryz.zeroValue5
  t9:=Tryz.underlying9
  a9:=Tryz.isAgg9
  z9:=Tryz.sizeOf9
  v9:=Tryz.zeroValue9
  t21:=Tryz.underlying21
  a21:=Tryz.isAgg21
  z21:=Tryz.sizeOf21
  v21:=Tryz.zeroValue21
  t46:=Tryz.underlying265
  a46:=Tryz.isAgg265
  z46:=Tryz.sizeOf265
  v46:=Tryz.zeroValue265
  t105:=Tryz.underlying320
  a105:=Tryz.isAgg320
  z105:=Tryz.sizeOf320
  v105:=Tryz.zeroValue320
  t116:=Tryz.underlying289
  a116:=Tryz.isAgg289
  z116:=Tryz.sizeOf289
  t117:=Tryz.underlying290
  a117:=Tryz.isAgg290
  z117:=Tryz.sizeOf290
  v117:=Tryz.zeroValue290
  t119:=Tryz.underlying339
  a119:=Tryz.isAgg339
  z119:=Tryz.sizeOf339
  t124:=Tryz.underlying293
  a124:=Tryz.isAgg293
  z124:=Tryz.sizeOf293
  v124:=Tryz.zeroValue293
  t138:=Tryz.underlying341
  a138:=Tryz.isAgg341
  z138:=Tryz.sizeOf341
  v138:=Tryz.zeroValue341
  t139:=Tryz.underlying342
  a139:=Tryz.isAgg342
  z139:=Tryz.sizeOf342
  v139:=Tryz.zeroValue342
  g3:=by kernel_rfl
  g4:=by kernel_rfl }

theorem trim_ok : XOk Tryz.prog 132 .trim :=
  ⟨enters_of Tryz.func132 (by kernel_rfl) rfl,fun s cs w h1 h2 h3=>Any.strings_Trim_laid Tryz.lays160 (by kernel_rfl) s cs w h1 h2 h3⟩
end Go.Proofs.YtagbgmkocjfanaaGreatDoor
