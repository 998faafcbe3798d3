/-
  The contract of strings.Trim at this program: laid out of the shelf. No condition.
-/
import Derived.Test.YtcbepglkfglclaaDoorProg
import Derived.Test.YtcbepglkfglclaaDoorHAbsT
import Derived.KernelRfl
import Derived.Shelf.Strings.SlTrimAscii
namespace Go.Proofs.YtcbepglkfglclaaDoor
open Go Go.Shelf Go.Abs
def Tryd.lays160_ren : Go.Shelf.Ren := ⟨fun | 160 => 132 | 232 => 157 | 231 => 156 | 227 => 158 | 234 => 160 | 233 => 159 | 236 => 162 | 235 => 161 | 228 => 172 | 271 => 175 | 151 => 174 | 197 => 173 | 120 => 179 | 152 => 178 | 260 => 177 | 137 => 120 | 119 => 182 | 224 => 183 | 225 => 184 | 217 => 152 | 266 => 169 | n => n, fun | 9 => 9 | 4 => 4 | 3 => 3 | 5 => 5 | 117 => 232 | 116 => 231 | 0 => 0 | 124 => 235 | 21 => 21 | 105 => 244 | 46 => 133 | 119 => 253 | 139 => 256 | 138 => 255 | n => n, fun | 3 => 2 | 4 => 3 | n => n⟩
theorem Tryd.lays160 : Go.Proofs.Lays.n160 Tryd.prog Tryd.lays160_ren := {
  mixed := by kernel_rfl
  f119 := Tryd.func182.trans (congrArg some (by kernel_rfl))
  f120 := Tryd.func179.trans (congrArg some (by kernel_rfl))
  f137 := Tryd.func120.trans (congrArg some (by kernel_rfl))
  f151 := Tryd.func174.trans (congrArg some (by kernel_rfl))
  f152 := Tryd.func178.trans (congrArg some (by kernel_rfl))
  f160 := Tryd.func132.trans (congrArg some (by kernel_rfl))
  f197 := Tryd.func173.trans (congrArg some (by kernel_rfl))
  f217 := Tryd.func152.trans (congrArg some (by kernel_rfl))
  f224 := Tryd.func183.trans (congrArg some (by kernel_rfl))
  f225 := Tryd.func184.trans (congrArg some (by kernel_rfl))
  f227 := Tryd.func158.trans (congrArg some (by kernel_rfl))
  f228 := Tryd.func172.trans (congrArg some (by kernel_rfl))
  f231 := Tryd.func156.trans (congrArg some (by kernel_rfl))
  f232 := Tryd.func157.trans (congrArg some (by kernel_rfl))
  f233 := Tryd.func159.trans (congrArg some (by kernel_rfl))
  f234 := Tryd.func160.trans (congrArg some (by kernel_rfl))
  f235 := Tryd.func161.trans (congrArg some (by kernel_rfl))
  f236 := Tryd.func162.trans (congrArg some (by kernel_rfl))
  f260 := Tryd.func177.trans (congrArg some (by kernel_rfl))
  f266 := Tryd.func169.trans (congrArg some (by kernel_rfl))
  f271 := Tryd.func175.trans (congrArg some (by kernel_rfl))
  t0 := Tryd.underlying0
  a0 := Tryd.isAgg0
  z0 := Tryd.sizeOf0
  v0 := Tryd.zeroValue0
  t3 := Tryd.underlying3
  a3 := Tryd.isAgg3
  z3 := Tryd.sizeOf3
  v3 := Tryd.zeroValue3
  t4 := Tryd.underlying4
  a4 := Tryd.isAgg4
  z4 := Tryd.sizeOf4
  v4 := Tryd.zeroValue4
  t5 := Tryd.underlying5
  a5 := Tryd.isAgg5
  z5 := Tryd.sizeOf5
  v5 := Tryd.zeroValue5
  t9 := Tryd.underlying9
  a9 := Tryd.isAgg9
  z9 := Tryd.sizeOf9
  v9 := Tryd.zeroValue9
  t21 := Tryd.underlying21
  a21 := Tryd.isAgg21
  z21 := Tryd.sizeOf21
  v21 := Tryd.zeroValue21
  t46 := Tryd.underlying133
  a46 := Tryd.isAgg133
  z46 := Tryd.sizeOf133
  v46 := Tryd.zeroValue133
  t105 := Tryd.underlying244
  a105 := Tryd.isAgg244
  z105 := Tryd.sizeOf244
  v105 := Tryd.zeroValue244
  t116 := Tryd.underlying231
  a116 := Tryd.isAgg231
  z116 := Tryd.sizeOf231
  t117 := Tryd.underlying232
  a117 := Tryd.isAgg232
  z117 := Tryd.sizeOf232
  v117 := Tryd.zeroValue232
  t119 := Tryd.underlying253
  a119 := Tryd.isAgg253
  z119 := Tryd.sizeOf253
  t124 := Tryd.underlying235
  a124 := Tryd.isAgg235
  z124 := Tryd.sizeOf235
  v124 := Tryd.zeroValue235
  t138 := Tryd.underlying255
  a138 := Tryd.isAgg255
  z138 := Tryd.sizeOf255
  v138 := Tryd.zeroValue255
  t139 := Tryd.underlying256
  a139 := Tryd.isAgg256
  z139 := Tryd.sizeOf256
  v139 := Tryd.zeroValue256
  g3 := by kernel_rfl
  g4 := by kernel_rfl }

theorem trim_ok : XOk Tryd.prog 132 .trim :=
  ⟨enters_of Tryd.func132 (by kernel_rfl) rfl, fun s cs w h1 h2 h3 => Any.strings_Trim_laid Tryd.lays160 (by kernel_rfl) s cs w h1 h2 h3⟩
end Go.Proofs.YtcbepglkfglclaaDoor
