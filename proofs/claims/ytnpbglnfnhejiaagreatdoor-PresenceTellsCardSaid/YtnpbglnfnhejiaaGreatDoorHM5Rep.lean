/-
  The contract of strings.Repeat at this program: laid out of the shelf. No condition.
-/
import Derived.Test.YtnpbglnfnhejiaaGreatDoorProg
import Derived.Test.YtnpbglnfnhejiaaGreatDoorHM5Absc
import Derived.KernelRfl
import Derived.Shelf.Strings.Repeat
namespace Go.Proofs.YtnpbglnfnhejiaaGreatDoor
open Go Go.Shelf Go.Abs
def Tryz.lays105_ren : Go.Shelf.Ren:=⟨fun | 105=>34 | 212=>78 | 99=>38 | 165=>79 | 166=>80 | 170=>81 | 169=>82 | 263=>133 | 264=>134 | 206=>85 | 240=>135 | 241=>136 | 276=>180 | 277=>181 | n=>n,fun | 9=>9 | 3=>3 | 4=>4 | 20=>20 | 0=>0 | 46=>128 | 109=>129 | 5=>5 | 72=>134 | 76=>138 | 51=>187 | 146=>188 | 53=>190 | 148=>191 | 70=>131 | 37=>132 | 75=>137 | 127=>193 | 164=>229 | 80=>140 | n=>n,fun | n=>n⟩
theorem Tryz.lays105 : Go.Proofs.Lays.n105 Tryz.prog Tryz.lays105_ren:={
  mixed:=by kernel_rfl
  f99:=Tryz.func38.trans (congrArg some (by kernel_rfl))
  f105:=Tryz.func34.trans (congrArg some (by kernel_rfl))
  f165:=Tryz.func79.trans (congrArg some (by kernel_rfl))
  f166:=Tryz.func80.trans (congrArg some (by kernel_rfl))
  f169:=Tryz.func82.trans (congrArg some (by kernel_rfl))
  f170:=Tryz.func81.trans (congrArg some (by kernel_rfl))
  f206:=Tryz.func85.trans (congrArg some (by kernel_rfl))
  f212:=Tryz.func78.trans (congrArg some (by kernel_rfl))
  f240:=Tryz.func135.trans (congrArg some (by kernel_rfl))
  f241:=Tryz.func136.trans (congrArg some (by kernel_rfl))
  f263:=Tryz.func133.trans (congrArg some (by kernel_rfl))
  f264:=Tryz.func134.trans (congrArg some (by kernel_rfl))
  f276:=Tryz.func180.trans (congrArg some (by kernel_rfl))
  f277:=Tryz.func181.trans (congrArg some (by kernel_rfl))
  t0:=Tryz.underlying0
  a0:=Tryz.isAgg0
  z0:=Tryz.sizeOf0
  v0:=Tryz.zeroValue0
  t3:=Tryz.underlying3
  a3:=Tryz.isAgg3
  z3:=Tryz.sizeOf3
  v3:=Tryz.zeroValue3
  t4:=Tryz.underlying4
  a4:=Tryz.isAgg4
  z4:=Tryz.sizeOf4
  v4:=Tryz.zeroValue4
  t5:=Tryz.underlying5
  a5:=Tryz.isAgg5
  z5:=Tryz.sizeOf5
  v5:=Tryz.zeroValue5
  t9:=Tryz.underlying9
  a9:=Tryz.isAgg9
  z9:=Tryz.sizeOf9
  v9:=Tryz.zeroValue9
  t20:=Tryz.underlying20
  a20:=Tryz.isAgg20
  z20:=Tryz.sizeOf20
  v20:=Tryz.zeroValue20
  t37:=Tryz.underlying132
  a37:=Tryz.isAgg132
  z37:=Tryz.sizeOf132
  v37:=Tryz.zeroValue132
  t46:=Tryz.underlying128
  a46:=Tryz.isAgg128
  z46:=Tryz.sizeOf128
  v46:=Tryz.zeroValue128
  t51:=Tryz.underlying187
  a51:=Tryz.isAgg187
  z51:=Tryz.sizeOf187
  v51:=Tryz.zeroValue187
  t53:=Tryz.underlying190
  a53:=Tryz.isAgg190
  z53:=Tryz.sizeOf190
  v53:=Tryz.zeroValue190
  t70:=Tryz.underlying131
  a70:=Tryz.isAgg131
  z70:=Tryz.sizeOf131
  v70:=Tryz.zeroValue131
  t72:=Tryz.underlying134
  a72:=Tryz.isAgg134
  z72:=Tryz.sizeOf134
  v72:=Tryz.zeroValue134
  t75:=Tryz.underlying137
  a75:=Tryz.isAgg137
  z75:=Tryz.sizeOf137
  v75:=Tryz.zeroValue137
  t76:=Tryz.underlying138
  a76:=Tryz.isAgg138
  z76:=Tryz.sizeOf138
  v76:=Tryz.zeroValue138
  t109:=Tryz.underlying129
  a109:=Tryz.isAgg129
  z109:=Tryz.sizeOf129
  v109:=Tryz.zeroValue129
  t127:=Tryz.underlying193
  a127:=Tryz.isAgg193
  z127:=Tryz.sizeOf193
  v127:=Tryz.zeroValue193
  t146:=Tryz.underlying188
  a146:=Tryz.isAgg188
  z146:=Tryz.sizeOf188
  v146:=Tryz.zeroValue188
  t148:=Tryz.underlying191
  a148:=Tryz.isAgg191
  z148:=Tryz.sizeOf191
  v148:=Tryz.zeroValue191
  t164:=Tryz.underlying229
  a164:=Tryz.isAgg229
  z164:=Tryz.sizeOf229
  v164:=Tryz.zeroValue229 }
theorem Tryz.extra105 : Builder.Extra Tryz.prog Tryz.lays105_ren:={
  sizeBuilder:=by kernel_rfl
  liesBuilder:=by kernel_rfl
  t5:=Tryz.underlying5
  a5:=Tryz.isAgg5
  z5:=Tryz.sizeOf5
  v5:=Tryz.zeroValue5
  infoByte:=by kernel_rfl
  cellsByte:=by kernel_rfl
  sizeByte:=by kernel_rfl
  neB5:=by decide }

theorem rep_ok : XOk Tryz.prog 34 .rep :=
  ⟨enters_of Tryz.func34 (by kernel_rfl) rfl,fun s c w h1 h2=>Any.strings_Repeat Tryz.lays105 Tryz.extra105 s c w (by omega) (by omega)⟩
end Go.Proofs.YtnpbglnfnhejiaaGreatDoor
