/-
  The contract of strings.Repeat at this program: laid out of the shelf. No condition.
-/
import Derived.Test.YtameabpbghichaaGreatDoorProg
import Derived.Test.YtameabpbghichaaGreatDoorHM3Absc
import Derived.KernelRfl
import Derived.Shelf.Strings.Repeat
namespace Go.Proofs.YtameabpbghichaaGreatDoor
open Go Go.Shelf Go.Abs
def Tryz.lays105_ren : Go.Shelf.Ren:=⟨fun | 105=>33 | 212=>81 | 99=>37 | 165=>82 | 166=>83 | 170=>84 | 169=>85 | 263=>138 | 264=>139 | 206=>88 | 240=>140 | 241=>141 | 276=>185 | 277=>186 | n=>n,fun | 9=>9 | 3=>3 | 4=>4 | 20=>20 | 0=>0 | 46=>164 | 109=>165 | 5=>5 | 72=>170 | 76=>174 | 51=>234 | 146=>235 | 53=>237 | 148=>238 | 70=>167 | 37=>168 | 75=>173 | 127=>240 | 164=>278 | 80=>177 | n=>n,fun | n=>n⟩
theorem Tryz.lays105 : Go.Proofs.Lays.n105 Tryz.prog Tryz.lays105_ren:={
  mixed:=by kernel_rfl
  f99:=Tryz.func37.trans (congrArg some (by kernel_rfl))
  f105:=Tryz.func33.trans (congrArg some (by kernel_rfl))
  f165:=Tryz.func82.trans (congrArg some (by kernel_rfl))
  f166:=Tryz.func83.trans (congrArg some (by kernel_rfl))
  f169:=Tryz.func85.trans (congrArg some (by kernel_rfl))
  f170:=Tryz.func84.trans (congrArg some (by kernel_rfl))
  f206:=Tryz.func88.trans (congrArg some (by kernel_rfl))
  f212:=Tryz.func81.trans (congrArg some (by kernel_rfl))
  f240:=Tryz.func140.trans (congrArg some (by kernel_rfl))
  f241:=Tryz.func141.trans (congrArg some (by kernel_rfl))
  f263:=Tryz.func138.trans (congrArg some (by kernel_rfl))
  f264:=Tryz.func139.trans (congrArg some (by kernel_rfl))
  f276:=Tryz.func185.trans (congrArg some (by kernel_rfl))
  f277:=Tryz.func186.trans (congrArg some (by kernel_rfl))
  t0:=Tryz.underlying0
  a0:=Tryz.isAgg0
  z0:=Tryz.sizeOf0
  v0:=Tryz.zeroValue0
  t3:=Tryz.underlying3
  a3:=Tryz.isAgg3
  z3:=Tryz.sizeOf3
  v3:=Tryz.zeroValue3
  t4:=Tryz.underlying4
  a4:=Tryz.isAgg4
  z4:=Tryz.sizeOf4
  v4:=Tryz.zeroValue4
  t5:=Tryz.underlying5
  a5:=Tryz.isAgg5
  z5:=Tryz.sizeOf5
  v5:=Tryz.zeroValue5
  t9:=Tryz.underlying9
  a9:=Tryz.isAgg9
  z9:=Tryz.sizeOf9
  v9:=Tryz.zeroValue9
  t20:=Tryz.underlying20
  a20:=Tryz.isAgg20
  z20:=Tryz.sizeOf20
  v20:=Tryz.zeroValue20
  t37:=Tryz.underlying168
  a37:=Tryz.isAgg168
  z37:=Tryz.sizeOf168
  v37:=Tryz.zeroValue168
  t46:=Tryz.underlying164
  a46:=Tryz.isAgg164
  z46:=Tryz.sizeOf164
  v46:=Tryz.zeroValue164
  t51:=Tryz.underlying234
  a51:=Tryz.isAgg234
  z51:=Tryz.sizeOf234
  v51:=Tryz.zeroValue234
  t53:=Tryz.underlying237
  a53:=Tryz.isAgg237
  z53:=Tryz.sizeOf237
  v53:=Tryz.zeroValue237
  t70:=Tryz.underlying167
  a70:=Tryz.isAgg167
  z70:=Tryz.sizeOf167
  v70:=Tryz.zeroValue167
  t72:=Tryz.underlying170
  a72:=Tryz.isAgg170
  z72:=Tryz.sizeOf170
  v72:=Tryz.zeroValue170
  t75:=Tryz.underlying173
  a75:=Tryz.isAgg173
  z75:=Tryz.sizeOf173
  v75:=Tryz.zeroValue173
  t76:=Tryz.underlying174
  a76:=Tryz.isAgg174
  z76:=Tryz.sizeOf174
  v76:=Tryz.zeroValue174
  t109:=Tryz.underlying165
  a109:=Tryz.isAgg165
  z109:=Tryz.sizeOf165
  v109:=Tryz.zeroValue165
  t127:=Tryz.underlying240
  a127:=Tryz.isAgg240
  z127:=Tryz.sizeOf240
  v127:=Tryz.zeroValue240
  t146:=Tryz.underlying235
  a146:=Tryz.isAgg235
  z146:=Tryz.sizeOf235
  v146:=Tryz.zeroValue235
  t148:=Tryz.underlying238
  a148:=Tryz.isAgg238
  z148:=Tryz.sizeOf238
  v148:=Tryz.zeroValue238
  t164:=Tryz.underlying278
  a164:=Tryz.isAgg278
  z164:=Tryz.sizeOf278
  v164:=Tryz.zeroValue278 }
theorem Tryz.extra105 : Builder.Extra Tryz.prog Tryz.lays105_ren:={
  sizeBuilder:=by kernel_rfl
  liesBuilder:=by kernel_rfl
  t5:=Tryz.underlying5
  a5:=Tryz.isAgg5
  z5:=Tryz.sizeOf5
  v5:=Tryz.zeroValue5
  infoByte:=by kernel_rfl
  cellsByte:=by kernel_rfl
  sizeByte:=by kernel_rfl
  neB5:=by decide }

theorem rep_ok : XOk Tryz.prog 33 .rep :=
  ⟨enters_of Tryz.func33 (by kernel_rfl) rfl,fun s c w h1 h2=>Any.strings_Repeat Tryz.lays105 Tryz.extra105 s c w (by omega) (by omega)⟩
end Go.Proofs.YtameabpbghichaaGreatDoor
