/-
  The contracts of slices.Sort and slices.Compact at this program: laid out of the shelf. No condition.
-/
import Derived.Test.YtoclmbbfdokbhaaGreatDoorProg
import Derived.Test.YtoclmbbfdokbhaaGreatDoorHM7Absc
import Derived.KernelRfl
import Derived.Shelf.Sort.Plain
import Derived.Shelf.Slices.CompactS
import Derived.Shelf.Slices.In.SortNone
namespace Go.Proofs.YtoclmbbfdokbhaaGreatDoor
open Go Go.Shelf Go.Abs Go.Sort
def Tryz.lays190_ren : Go.Shelf.Ren:=⟨fun | 190=>120 | 125=>174 | 258=>173 | 128=>215 | 129=>216 | 302=>206 | 303=>207 | 304=>208 | 305=>209 | 306=>210 | 307=>211 | 308=>212 | 309=>213 | 310=>214 | 333=>232 | 329=>233 | 330=>234 | 334=>235 | 335=>236 | 336=>237 | 344=>247 | n=>n,fun | 31=>81 | 9=>9 | 3=>3 | 46=>103 | 0=>0 | 51=>235 | 53=>238 | 4=>4 | 183=>257 | 182=>256 | 131=>232 | 5=>5 | 218=>279 | 222=>283 | 228=>287 | 229=>288 | n=>n,fun | n=>n⟩
theorem Tryz.lays190 : Go.Proofs.Lays.n190 Tryz.prog Tryz.lays190_ren:={
  mixed:=by kernel_rfl
  f125:=Tryz.func174.trans (congrArg some (by kernel_rfl))
  f128:=Tryz.func215.trans (congrArg some (by kernel_rfl))
  f129:=Tryz.func216.trans (congrArg some (by kernel_rfl))
  f190:=Tryz.func120.trans (congrArg some (by kernel_rfl))
  f258:=Tryz.func173.trans (congrArg some (by kernel_rfl))
  f302:=Tryz.func206.trans (congrArg some (by kernel_rfl))
  f303:=Tryz.func207.trans (congrArg some (by kernel_rfl))
  f304:=Tryz.func208.trans (congrArg some (by kernel_rfl))
  f305:=Tryz.func209.trans (congrArg some (by kernel_rfl))
  f306:=Tryz.func210.trans (congrArg some (by kernel_rfl))
  f307:=Tryz.func211.trans (congrArg some (by kernel_rfl))
  f308:=Tryz.func212.trans (congrArg some (by kernel_rfl))
  f309:=Tryz.func213.trans (congrArg some (by kernel_rfl))
  f310:=Tryz.func214.trans (congrArg some (by kernel_rfl))
  f329:=Tryz.func233.trans (congrArg some (by kernel_rfl))
  f330:=Tryz.func234.trans (congrArg some (by kernel_rfl))
  f333:=Tryz.func232.trans (congrArg some (by kernel_rfl))
  f334:=Tryz.func235.trans (congrArg some (by kernel_rfl))
  f335:=Tryz.func236.trans (congrArg some (by kernel_rfl))
  f336:=Tryz.func237.trans (congrArg some (by kernel_rfl))
  f344:=Tryz.func247.trans (congrArg some (by kernel_rfl))
  t0:=Tryz.underlying0
  a0:=Tryz.isAgg0
  z0:=Tryz.sizeOf0
  v0:=Tryz.zeroValue0
  t3:=Tryz.underlying3
  a3:=Tryz.isAgg3
  z3:=Tryz.sizeOf3
  v3:=Tryz.zeroValue3
  t4:=Tryz.underlying4
  a4:=Tryz.isAgg4
  z4:=Tryz.sizeOf4
  v4:=Tryz.zeroValue4
  t5:=Tryz.underlying5
  a5:=Tryz.isAgg5
  z5:=Tryz.sizeOf5
  v5:=Tryz.zeroValue5
  t9:=Tryz.underlying9
  a9:=Tryz.isAgg9
  z9:=Tryz.sizeOf9
  v9:=Tryz.zeroValue9
  t31:=Tryz.underlying81
  a31:=Tryz.isAgg81
  z31:=Tryz.sizeOf81
  v31:=Tryz.zeroValue81
  t46:=Tryz.underlying103
  a46:=Tryz.isAgg103
  z46:=Tryz.sizeOf103
  v46:=Tryz.zeroValue103
  t51:=Tryz.underlying235
  a51:=Tryz.isAgg235
  z51:=Tryz.sizeOf235
  v51:=Tryz.zeroValue235
  t53:=Tryz.underlying238
  a53:=Tryz.isAgg238
  z53:=Tryz.sizeOf238
  v53:=Tryz.zeroValue238
  t131:=Tryz.underlying232
  a131:=Tryz.isAgg232
  z131:=Tryz.sizeOf232
  v131:=Tryz.zeroValue232
  t182:=Tryz.underlying256
  a182:=Tryz.isAgg256
  z182:=Tryz.sizeOf256
  v182:=Tryz.zeroValue256
  t183:=Tryz.underlying257
  a183:=Tryz.isAgg257
  z183:=Tryz.sizeOf257
  v183:=Tryz.zeroValue257
  t218:=Tryz.underlying279
  a218:=Tryz.isAgg279
  z218:=Tryz.sizeOf279
  v218:=Tryz.zeroValue279
  t222:=Tryz.underlying283
  a222:=Tryz.isAgg283
  z222:=Tryz.sizeOf283
  v222:=Tryz.zeroValue283
  t228:=Tryz.underlying287
  a228:=Tryz.isAgg287
  z228:=Tryz.sizeOf287
  v228:=Tryz.zeroValue287
  t229:=Tryz.underlying288
  a229:=Tryz.isAgg288
  z229:=Tryz.sizeOf288
  v229:=Tryz.zeroValue288 }
def Tryz.lays194_ren : Go.Shelf.Ren:=⟨fun | 194=>121 | n=>n,fun | 31=>81 | 9=>9 | 3=>3 | 4=>4 | 0=>0 | n=>n,fun | n=>n⟩
theorem Tryz.lays194 : Go.Proofs.Lays.n194 Tryz.prog Tryz.lays194_ren:={
  mixed:=by kernel_rfl
  f194:=Tryz.func121.trans (congrArg some (by kernel_rfl))
  t0:=Tryz.underlying0
  a0:=Tryz.isAgg0
  z0:=Tryz.sizeOf0
  v0:=Tryz.zeroValue0
  t3:=Tryz.underlying3
  a3:=Tryz.isAgg3
  z3:=Tryz.sizeOf3
  v3:=Tryz.zeroValue3
  t4:=Tryz.underlying4
  a4:=Tryz.isAgg4
  z4:=Tryz.sizeOf4
  v4:=Tryz.zeroValue4
  t9:=Tryz.underlying9
  a9:=Tryz.isAgg9
  z9:=Tryz.sizeOf9
  v9:=Tryz.zeroValue9
  t31:=Tryz.underlying81
  a31:=Tryz.isAgg81
  z31:=Tryz.sizeOf81
  v31:=Tryz.zeroValue81 }

theorem compact_le (l : List (List UInt8)) : (Lib.compact l).length ≤ l.length:=by
  unfold Lib.compact Lib.compactUpTo
  rw [List.length_map]
  refine Nat.le_trans (List.length_filter_le _ _) ?_
  simp
theorem srtS_ok : XOk Tryz.prog 120 .srtS:=by
  unfold XOk
  simp only [reduceCtorEq,if_false,if_true]
  exact { enter := enters_of Tryz.func120 (by kernel_rfl) rfl
          row:=fun blk off cap zs w hH hb h1 _=>Any.slices_Sort_string Tryz.lays190 blk off cap zs w hH hb (by omega)
          empty:=fun p cap w=>Any.slices_Sort_string_none Tryz.lays190 p cap w
          same:=fun zs=>List.length_mergeSort zs
          le:=fun zs m h=>by simp at h }
theorem cpS_ok : XOk Tryz.prog 121 .cpS:=by
  unfold XOk
  simp only [reduceCtorEq,if_false,if_true]
  exact { enter := enters_of Tryz.func121 (by kernel_rfl) rfl
          row:=fun blk off cap zs w hH _ h1 h2=>by
            refine (Any.slices_Compact_string Tryz.lays194 blk off cap zs w hH (by omega) h2).mono ?_
            rintro e w' ⟨h3,q,h4⟩
            refine ⟨h3,q,#[],?_⟩
            rw [h4]
            simp only [cpR,grow]
            rfl
          empty:=fun p cap w=>Any.slices_Compact_string_empty Tryz.lays194 p cap w
          same:=fun zs=>by simp only [cpR,List.length_append,List.length_replicate]; have:=compact_le zs; omega
          le:=fun zs m h=>by
            have h:=Option.some.inj h
            have:=compact_le zs
            omega }
end Go.Proofs.YtoclmbbfdokbhaaGreatDoor
