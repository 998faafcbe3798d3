/-
  The contract of strings.Trim at this program: laid out of the shelf. No condition.
-/
import Derived.Test.YtoclmbbfdokbhaaGreatDoorProg
import Derived.Test.YtoclmbbfdokbhaaGreatDoorHM7Absc
import Derived.KernelRfl
import Derived.Shelf.Strings.SlTrimAscii
namespace Go.Proofs.YtoclmbbfdokbhaaGreatDoor
open Go Go.Shelf Go.Abs
def Tryz.lays160_ren : Go.Shelf.Ren:=⟨fun | 160=>160 | 232=>196 | 231=>195 | 227=>197 | 234=>199 | 233=>198 | 236=>201 | 235=>200 | 228=>225 | 271=>228 | 151=>227 | 197=>226 | 120=>243 | 152=>242 | 260=>241 | 137=>92 | 119=>248 | 224=>249 | 225=>250 | 217=>159 | 266=>194 | n=>n,fun | 9=>9 | 4=>4 | 3=>3 | 5=>5 | 117=>247 | 116=>246 | 0=>0 | 124=>250 | 21=>21 | 105=>276 | 46=>103 | 119=>290 | 139=>293 | 138=>292 | n=>n,fun | 3=>2 | 4=>3 | n=>n⟩
theorem Tryz.lays160 : Go.Proofs.Lays.n160 Tryz.prog Tryz.lays160_ren:={
  mixed:=by kernel_rfl
  f119:=Tryz.func248.trans (congrArg some (by kernel_rfl))
  f120:=Tryz.func243.trans (congrArg some (by kernel_rfl))
  f137:=Tryz.func92.trans (congrArg some (by kernel_rfl))
  f151:=Tryz.func227.trans (congrArg some (by kernel_rfl))
  f152:=Tryz.func242.trans (congrArg some (by kernel_rfl))
  f160:=Tryz.func160.trans (congrArg some (by kernel_rfl))
  f197:=Tryz.func226.trans (congrArg some (by kernel_rfl))
  f217:=Tryz.func159.trans (congrArg some (by kernel_rfl))
  f224:=Tryz.func249.trans (congrArg some (by kernel_rfl))
  f225:=Tryz.func250.trans (congrArg some (by kernel_rfl))
  f227:=Tryz.func197.trans (congrArg some (by kernel_rfl))
  f228:=Tryz.func225.trans (congrArg some (by kernel_rfl))
  f231:=Tryz.func195.trans (congrArg some (by kernel_rfl))
  f232:=Tryz.func196.trans (congrArg some (by kernel_rfl))
  f233:=Tryz.func198.trans (congrArg some (by kernel_rfl))
  f234:=Tryz.func199.trans (congrArg some (by kernel_rfl))
  f235:=Tryz.func200.trans (congrArg some (by kernel_rfl))
  f236:=Tryz.func201.trans (congrArg some (by kernel_rfl))
  f260:=Tryz.func241.trans (congrArg some (by kernel_rfl))
  f266:=Tryz.func194.trans (congrArg some (by kernel_rfl))
  f271:=Tryz.func228.trans (congrArg some (by kernel_rfl))
  t0:=Tryz.underlying0
  a0:=Tryz.isAgg0
  z0:=Tryz.sizeOf0
  v0:=Tryz.zeroValue0
  t3:=Tryz.underlying3
  a3:=Tryz.isAgg3
  z3:=Tryz.sizeOf3
  v3:=Tryz.zeroValue3
  t4:=Tryz.underlying4
  a4:=Tryz.isAgg4
  z4:=Tryz.sizeOf4
  v4:=Tryz.zeroValue4
  t5:=Tryz.underlying5
  a5:=Tryz.isAgg5
  z5:=Tryz.sizeOf5
  v5:=Tryz.zeroValue5
  t9:=Tryz.underlying9
  a9:=Tryz.isAgg9
  z9:=Tryz.sizeOf9
  v9:=Tryz.zeroValue9
  t21:=Tryz.underlying21
  a21:=Tryz.isAgg21
  z21:=Tryz.sizeOf21
  v21:=Tryz.zeroValue21
  t46:=Tryz.underlying103
  a46:=Tryz.isAgg103
  z46:=Tryz.sizeOf103
  v46:=Tryz.zeroValue103
  t105:=Tryz.underlying276
  a105:=Tryz.isAgg276
  z105:=Tryz.sizeOf276
  v105:=Tryz.zeroValue276
  t116:=Tryz.underlying246
  a116:=Tryz.isAgg246
  z116:=Tryz.sizeOf246
  t117:=Tryz.underlying247
  a117:=Tryz.isAgg247
  z117:=Tryz.sizeOf247
  v117:=Tryz.zeroValue247
  t119:=Tryz.underlying290
  a119:=Tryz.isAgg290
  z119:=Tryz.sizeOf290
  t124:=Tryz.underlying250
  a124:=Tryz.isAgg250
  z124:=Tryz.sizeOf250
  v124:=Tryz.zeroValue250
  t138:=Tryz.underlying292
  a138:=Tryz.isAgg292
  z138:=Tryz.sizeOf292
  v138:=Tryz.zeroValue292
  t139:=Tryz.underlying293
  a139:=Tryz.isAgg293
  z139:=Tryz.sizeOf293
  v139:=Tryz.zeroValue293
  g3:=by kernel_rfl
  g4:=by kernel_rfl }

theorem trim_ok : XOk Tryz.prog 160 .trim :=
  ⟨enters_of Tryz.func160 (by kernel_rfl) rfl,fun s cs w h1 h2 h3=>Any.strings_Trim_laid Tryz.lays160 (by kernel_rfl) s cs w h1 h2 h3⟩
end Go.Proofs.YtoclmbbfdokbhaaGreatDoor
