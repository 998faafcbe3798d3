/-
  The contract of slices.Sort at this program: laid out of the shelf. No condition.
-/
import Derived.Test.YtameabpbghichaaGreatDoorProg
import Derived.Test.YtameabpbghichaaGreatDoorHM4Absc
import Derived.KernelRfl
import Derived.Shelf.Sort.Plain
import Derived.Shelf.Slices.In.SortNone
namespace Go.Proofs.YtameabpbghichaaGreatDoor
open Go Go.Shelf Go.Abs Go.Sort
def Tryz.lays190_ren:Go.Shelf.Ren:=⟨fun|190=>52|125=>114|258=>113|128=>164|129=>165|302=>156|303=>157|304=>158|305=>159|306=>160|307=>161|308=>53|309=>162|310=>163|333=>197|329=>198|330=>199|334=>200|335=>201|336=>115|344=>219|n=>n,fun|31=>27|9=>9|3=>3|46=>164|0=>0|51=>234|53=>237|4=>4|183=>255|182=>254|131=>259|5=>5|218=>286|222=>290|228=>307|229=>308|n=>n,fun|n=>n⟩
theorem Tryz.lays190:Go.Proofs.Lays.n190 Tryz.prog Tryz.lays190_ren:={
  mixed:=by kernel_rfl
  f125:=Tryz.func114.trans (congrArg some (by kernel_rfl))
  f128:=Tryz.func164.trans (congrArg some (by kernel_rfl))
  f129:=Tryz.func165.trans (congrArg some (by kernel_rfl))
  f190:=Tryz.func52.trans (congrArg some (by kernel_rfl))
  f258:=Tryz.func113.trans (congrArg some (by kernel_rfl))
  f302:=Tryz.func156.trans (congrArg some (by kernel_rfl))
  f303:=Tryz.func157.trans (congrArg some (by kernel_rfl))
  f304:=Tryz.func158.trans (congrArg some (by kernel_rfl))
  f305:=Tryz.func159.trans (congrArg some (by kernel_rfl))
  f306:=Tryz.func160.trans (congrArg some (by kernel_rfl))
  f307:=Tryz.func161.trans (congrArg some (by kernel_rfl))
  f308:=Tryz.func53.trans (congrArg some (by kernel_rfl))
  f309:=Tryz.func162.trans (congrArg some (by kernel_rfl))
  f310:=Tryz.func163.trans (congrArg some (by kernel_rfl))
  f329:=Tryz.func198.trans (congrArg some (by kernel_rfl))
  f330:=Tryz.func199.trans (congrArg some (by kernel_rfl))
  f333:=Tryz.func197.trans (congrArg some (by kernel_rfl))
  f334:=Tryz.func200.trans (congrArg some (by kernel_rfl))
  f335:=Tryz.func201.trans (congrArg some (by kernel_rfl))
  f336:=Tryz.func115.trans (congrArg some (by kernel_rfl))
  f344:=Tryz.func219.trans (congrArg some (by kernel_rfl))
  t0:=Tryz.underlying0
  a0:=Tryz.isAgg0
  z0:=Tryz.sizeOf0
  v0:=Tryz.zeroValue0
  t3:=Tryz.underlying3
  a3:=Tryz.isAgg3
  z3:=Tryz.sizeOf3
  v3:=Tryz.zeroValue3
  t4:=Tryz.underlying4
  a4:=Tryz.isAgg4
  z4:=Tryz.sizeOf4
  v4:=Tryz.zeroValue4
  t5:=Tryz.underlying5
  a5:=Tryz.isAgg5
  z5:=Tryz.sizeOf5
  v5:=Tryz.zeroValue5
  t9:=Tryz.underlying9
  a9:=Tryz.isAgg9
  z9:=Tryz.sizeOf9
  v9:=Tryz.zeroValue9
  t31:=Tryz.underlying27
  a31:=Tryz.isAgg27
  z31:=Tryz.sizeOf27
  v31:=Tryz.zeroValue27
  t46:=Tryz.underlying164
  a46:=Tryz.isAgg164
  z46:=Tryz.sizeOf164
  v46:=Tryz.zeroValue164
  t51:=Tryz.underlying234
  a51:=Tryz.isAgg234
  z51:=Tryz.sizeOf234
  v51:=Tryz.zeroValue234
  t53:=Tryz.underlying237
  a53:=Tryz.isAgg237
  z53:=Tryz.sizeOf237
  v53:=Tryz.zeroValue237
  t131:=Tryz.underlying259
  a131:=Tryz.isAgg259
  z131:=Tryz.sizeOf259
  v131:=Tryz.zeroValue259
  t182:=Tryz.underlying254
  a182:=Tryz.isAgg254
  z182:=Tryz.sizeOf254
  v182:=Tryz.zeroValue254
  t183:=Tryz.underlying255
  a183:=Tryz.isAgg255
  z183:=Tryz.sizeOf255
  v183:=Tryz.zeroValue255
  t218:=Tryz.underlying286
  a218:=Tryz.isAgg286
  z218:=Tryz.sizeOf286
  v218:=Tryz.zeroValue286
  t222:=Tryz.underlying290
  a222:=Tryz.isAgg290
  z222:=Tryz.sizeOf290
  v222:=Tryz.zeroValue290
  t228:=Tryz.underlying307
  a228:=Tryz.isAgg307
  z228:=Tryz.sizeOf307
  v228:=Tryz.zeroValue307
  t229:=Tryz.underlying308
  a229:=Tryz.isAgg308
  z229:=Tryz.sizeOf308
  v229:=Tryz.zeroValue308 }
theorem srtS_ok:XOk Tryz.prog 52 .srtS:=by
  unfold XOk
  simp only[reduceCtorEq,if_false,if_true]
  exact { enter := enters_of Tryz.func52 (by kernel_rfl) rfl
          row:=fun blk off cap zs w hH hb h1 _=>Any.slices_Sort_string Tryz.lays190 blk off cap zs w hH hb (by omega)
          empty:=fun p cap w=>Any.slices_Sort_string_none Tryz.lays190 p cap w
          same:=fun zs=>List.length_mergeSort zs
          le:=fun zs m h=>by simp at h }
end Go.Proofs.YtameabpbghichaaGreatDoor
