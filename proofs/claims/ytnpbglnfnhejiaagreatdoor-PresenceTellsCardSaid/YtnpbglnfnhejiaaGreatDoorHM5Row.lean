/-
  The contracts of slices.Sort, slices.Compact, strings.Contains and utf8.ValidString at this program: laid out of the shelf. No condition.
-/
import Derived.Test.YtnpbglnfnhejiaaGreatDoorProg
import Derived.Test.YtnpbglnfnhejiaaGreatDoorHM5Absc
import Derived.KernelRfl
import Derived.Shelf.Sort.Plain
import Derived.Shelf.Slices.CompactI
import Derived.Shelf.Slices.In.SortNone
import Derived.Shelf.Strings.Shaped
import Derived.Shelf.Unicode.ValidAny
import Derived.Lib.LaidU8
namespace Go.Proofs.YtnpbglnfnhejiaaGreatDoor
open Go Go.Shelf Go.Abs Go.Sort
def Tryz.lays189_ren : Go.Shelf.Ren:=⟨fun | 189=>68 | 125=>122 | 257=>121 | 128=>168 | 129=>169 | 294=>159 | 295=>160 | 296=>161 | 297=>162 | 298=>163 | 299=>164 | 216=>165 | 300=>166 | 301=>167 | 328=>204 | 329=>205 | 330=>206 | 331=>207 | 332=>208 | 215=>101 | 343=>232 | n=>n,fun | 28=>22 | 3=>3 | 46=>128 | 0=>0 | 51=>187 | 53=>190 | 4=>4 | 183=>207 | 182=>206 | 131=>161 | 5=>5 | 9=>9 | 218=>248 | 222=>252 | 228=>275 | 229=>276 | n=>n,fun | n=>n⟩
theorem Tryz.lays189 : Go.Proofs.Lays.n189 Tryz.prog Tryz.lays189_ren:={
  mixed:=by kernel_rfl
  f125:=Tryz.func122.trans (congrArg some (by kernel_rfl))
  f128:=Tryz.func168.trans (congrArg some (by kernel_rfl))
  f129:=Tryz.func169.trans (congrArg some (by kernel_rfl))
  f189:=Tryz.func68.trans (congrArg some (by kernel_rfl))
  f215:=Tryz.func101.trans (congrArg some (by kernel_rfl))
  f216:=Tryz.func165.trans (congrArg some (by kernel_rfl))
  f257:=Tryz.func121.trans (congrArg some (by kernel_rfl))
  f294:=Tryz.func159.trans (congrArg some (by kernel_rfl))
  f295:=Tryz.func160.trans (congrArg some (by kernel_rfl))
  f296:=Tryz.func161.trans (congrArg some (by kernel_rfl))
  f297:=Tryz.func162.trans (congrArg some (by kernel_rfl))
  f298:=Tryz.func163.trans (congrArg some (by kernel_rfl))
  f299:=Tryz.func164.trans (congrArg some (by kernel_rfl))
  f300:=Tryz.func166.trans (congrArg some (by kernel_rfl))
  f301:=Tryz.func167.trans (congrArg some (by kernel_rfl))
  f328:=Tryz.func204.trans (congrArg some (by kernel_rfl))
  f329:=Tryz.func205.trans (congrArg some (by kernel_rfl))
  f330:=Tryz.func206.trans (congrArg some (by kernel_rfl))
  f331:=Tryz.func207.trans (congrArg some (by kernel_rfl))
  f332:=Tryz.func208.trans (congrArg some (by kernel_rfl))
  f343:=Tryz.func232.trans (congrArg some (by kernel_rfl))
  t0:=Tryz.underlying0
  a0:=Tryz.isAgg0
  z0:=Tryz.sizeOf0
  v0:=Tryz.zeroValue0
  t3:=Tryz.underlying3
  a3:=Tryz.isAgg3
  z3:=Tryz.sizeOf3
  v3:=Tryz.zeroValue3
  t4:=Tryz.underlying4
  a4:=Tryz.isAgg4
  z4:=Tryz.sizeOf4
  v4:=Tryz.zeroValue4
  t5:=Tryz.underlying5
  a5:=Tryz.isAgg5
  z5:=Tryz.sizeOf5
  v5:=Tryz.zeroValue5
  t9:=Tryz.underlying9
  a9:=Tryz.isAgg9
  z9:=Tryz.sizeOf9
  v9:=Tryz.zeroValue9
  t28:=Tryz.underlying22
  a28:=Tryz.isAgg22
  z28:=Tryz.sizeOf22
  v28:=Tryz.zeroValue22
  t46:=Tryz.underlying128
  a46:=Tryz.isAgg128
  z46:=Tryz.sizeOf128
  v46:=Tryz.zeroValue128
  t51:=Tryz.underlying187
  a51:=Tryz.isAgg187
  z51:=Tryz.sizeOf187
  v51:=Tryz.zeroValue187
  t53:=Tryz.underlying190
  a53:=Tryz.isAgg190
  z53:=Tryz.sizeOf190
  v53:=Tryz.zeroValue190
  t131:=Tryz.underlying161
  a131:=Tryz.isAgg161
  z131:=Tryz.sizeOf161
  v131:=Tryz.zeroValue161
  t182:=Tryz.underlying206
  a182:=Tryz.isAgg206
  z182:=Tryz.sizeOf206
  v182:=Tryz.zeroValue206
  t183:=Tryz.underlying207
  a183:=Tryz.isAgg207
  z183:=Tryz.sizeOf207
  v183:=Tryz.zeroValue207
  t218:=Tryz.underlying248
  a218:=Tryz.isAgg248
  z218:=Tryz.sizeOf248
  v218:=Tryz.zeroValue248
  t222:=Tryz.underlying252
  a222:=Tryz.isAgg252
  z222:=Tryz.sizeOf252
  v222:=Tryz.zeroValue252
  t228:=Tryz.underlying275
  a228:=Tryz.isAgg275
  z228:=Tryz.sizeOf275
  v228:=Tryz.zeroValue275
  t229:=Tryz.underlying276
  a229:=Tryz.isAgg276
  z229:=Tryz.sizeOf276
  v229:=Tryz.zeroValue276 }
def Tryz.lays20_ren : Go.Shelf.Ren:=⟨fun | 20=>69 | n=>n,fun | 22=>22 | 3=>3 | 4=>4 | 0=>0 | n=>n,fun | n=>n⟩
theorem Tryz.lays20 : Go.Proofs.Lays2.n20 Tryz.prog Tryz.lays20_ren:={
  mixed:=by kernel_rfl
  f20:=Tryz.func69.trans (congrArg some (by kernel_rfl))
  t0:=Tryz.underlying0
  a0:=Tryz.isAgg0
  z0:=Tryz.sizeOf0
  v0:=Tryz.zeroValue0
  t3:=Tryz.underlying3
  a3:=Tryz.isAgg3
  z3:=Tryz.sizeOf3
  v3:=Tryz.zeroValue3
  t4:=Tryz.underlying4
  a4:=Tryz.isAgg4
  z4:=Tryz.sizeOf4
  v4:=Tryz.zeroValue4
  t22:=Tryz.underlying22
  a22:=Tryz.isAgg22
  z22:=Tryz.sizeOf22
  v22:=Tryz.zeroValue22
  i3:=by kernel_rfl }
def Tryz.lays144_ren : Go.Shelf.Ren:=⟨fun | 144=>157 | 143=>202 | 219=>231 | 217=>143 | 225=>216 | 224=>215 | 267=>244 | 266=>188 | 314=>249 | n=>n,fun | 9=>9 | 4=>4 | 3=>3 | 5=>5 | 46=>128 | 146=>188 | 51=>187 | n=>n,fun | 1=>0 | n=>n⟩
theorem Tryz.lays144 : Go.Proofs.LaysM.n144 Tryz.prog Tryz.lays144_ren:={
  mixed:=by kernel_rfl
  f143:=Tryz.func202.trans (congrArg some (by kernel_rfl))
  f144:=Tryz.func157.trans (congrArg some (by kernel_rfl))
  f217:=Tryz.func143.trans (congrArg some (by kernel_rfl))
  f219:=Tryz.func231.trans (congrArg some (by kernel_rfl))
  f224:=Tryz.func215.trans (congrArg some (by kernel_rfl))
  f225:=Tryz.func216.trans (congrArg some (by kernel_rfl))
  f266:=Tryz.func188.trans (congrArg some (by kernel_rfl))
  f267:=Tryz.func244.trans (congrArg some (by kernel_rfl))
  f314:=Tryz.func249.trans (congrArg some (by kernel_rfl))
  t3:=Tryz.underlying3
  a3:=Tryz.isAgg3
  z3:=Tryz.sizeOf3
  v3:=Tryz.zeroValue3
  t4:=Tryz.underlying4
  a4:=Tryz.isAgg4
  z4:=Tryz.sizeOf4
  v4:=Tryz.zeroValue4
  t5:=Tryz.underlying5
  a5:=Tryz.isAgg5
  z5:=Tryz.sizeOf5
  v5:=Tryz.zeroValue5
  t9:=Tryz.underlying9
  a9:=Tryz.isAgg9
  z9:=Tryz.sizeOf9
  v9:=Tryz.zeroValue9
  t46:=Tryz.underlying128
  a46:=Tryz.isAgg128
  z46:=Tryz.sizeOf128
  v46:=Tryz.zeroValue128
  t51:=Tryz.underlying187
  a51:=Tryz.isAgg187
  z51:=Tryz.sizeOf187
  v51:=Tryz.zeroValue187
  t146:=Tryz.underlying188
  a146:=Tryz.isAgg188
  z146:=Tryz.sizeOf188
  v146:=Tryz.zeroValue188
  g1:=by kernel_rfl
  i3:=by kernel_rfl
  i4:=by kernel_rfl
  i5:=by kernel_rfl
  i9:=by kernel_rfl
  i46:=by kernel_rfl
  i51:=by kernel_rfl
  i146:=by kernel_rfl
  m1:=by kernel_rfl
  s1_3:=fun w h=>Go.Proofs.cell_of_shapedOpen_int (zero:=#[.int .i64 0]) (t:=3) h (of_decide_eq_true (by kernel_rfl)) (by kernel_rfl) rfl (by kernel_rfl) (by kernel_rfl) Tryz.underlying3 }
def Tryz.lays196_ren : Go.Shelf.Ren:=⟨fun | 196=>154 | 259=>200 | n=>n,fun | 9=>9 | 4=>4 | 3=>3 | 5=>5 | 12=>12 | 119=>243 | 0=>0 | 46=>128 | 139=>246 | 138=>245 | 53=>190 | n=>n,fun | 3=>1 | 4=>2 | n=>n⟩
theorem Tryz.lays196 : Go.Proofs.Lays.n196 Tryz.prog Tryz.lays196_ren:={
  mixed:=by kernel_rfl
  f196:=Tryz.func154.trans (congrArg some (by kernel_rfl))
  f259:=Tryz.func200.trans (congrArg some (by kernel_rfl))
  t0:=Tryz.underlying0
  a0:=Tryz.isAgg0
  z0:=Tryz.sizeOf0
  v0:=Tryz.zeroValue0
  t3:=Tryz.underlying3
  a3:=Tryz.isAgg3
  z3:=Tryz.sizeOf3
  v3:=Tryz.zeroValue3
  t4:=Tryz.underlying4
  a4:=Tryz.isAgg4
  z4:=Tryz.sizeOf4
  v4:=Tryz.zeroValue4
  t5:=Tryz.underlying5
  a5:=Tryz.isAgg5
  z5:=Tryz.sizeOf5
  v5:=Tryz.zeroValue5
  t9:=Tryz.underlying9
  a9:=Tryz.isAgg9
  z9:=Tryz.sizeOf9
  v9:=Tryz.zeroValue9
  t12:=Tryz.underlying12
  a12:=Tryz.isAgg12
  z12:=Tryz.sizeOf12
  v12:=Tryz.zeroValue12
  t46:=Tryz.underlying128
  a46:=Tryz.isAgg128
  z46:=Tryz.sizeOf128
  v46:=Tryz.zeroValue128
  t53:=Tryz.underlying190
  a53:=Tryz.isAgg190
  z53:=Tryz.sizeOf190
  v53:=Tryz.zeroValue190
  t119:=Tryz.underlying243
  a119:=Tryz.isAgg243
  z119:=Tryz.sizeOf243
  t138:=Tryz.underlying245
  a138:=Tryz.isAgg245
  z138:=Tryz.sizeOf245
  v138:=Tryz.zeroValue245
  t139:=Tryz.underlying246
  a139:=Tryz.isAgg246
  z139:=Tryz.sizeOf246
  v139:=Tryz.zeroValue246
  g3:=by kernel_rfl
  g4:=by kernel_rfl }
def Tryz.lays260_ren : Go.Shelf.Ren:=⟨fun | 260=>182 | n=>n,fun | 9=>9 | 21=>21 | 3=>3 | 4=>4 | 5=>5 | 119=>243 | 0=>0 | 46=>128 | 139=>246 | 138=>245 | n=>n,fun | 3=>1 | 4=>2 | n=>n⟩
theorem Tryz.lays260 : Go.Proofs.Lays.n260 Tryz.prog Tryz.lays260_ren:={
  mixed:=by kernel_rfl
  f260:=Tryz.func182.trans (congrArg some (by kernel_rfl))
  t0:=Tryz.underlying0
  a0:=Tryz.isAgg0
  z0:=Tryz.sizeOf0
  v0:=Tryz.zeroValue0
  t3:=Tryz.underlying3
  a3:=Tryz.isAgg3
  z3:=Tryz.sizeOf3
  v3:=Tryz.zeroValue3
  t4:=Tryz.underlying4
  a4:=Tryz.isAgg4
  z4:=Tryz.sizeOf4
  v4:=Tryz.zeroValue4
  t5:=Tryz.underlying5
  a5:=Tryz.isAgg5
  z5:=Tryz.sizeOf5
  v5:=Tryz.zeroValue5
  t9:=Tryz.underlying9
  a9:=Tryz.isAgg9
  z9:=Tryz.sizeOf9
  v9:=Tryz.zeroValue9
  t21:=Tryz.underlying21
  a21:=Tryz.isAgg21
  z21:=Tryz.sizeOf21
  v21:=Tryz.zeroValue21
  t46:=Tryz.underlying128
  a46:=Tryz.isAgg128
  z46:=Tryz.sizeOf128
  v46:=Tryz.zeroValue128
  t119:=Tryz.underlying243
  a119:=Tryz.isAgg243
  z119:=Tryz.sizeOf243
  t138:=Tryz.underlying245
  a138:=Tryz.isAgg245
  z138:=Tryz.sizeOf245
  v138:=Tryz.zeroValue245
  t139:=Tryz.underlying246
  a139:=Tryz.isAgg246
  z139:=Tryz.sizeOf246
  v139:=Tryz.zeroValue246
  g3:=by kernel_rfl
  g4:=by kernel_rfl }

theorem compact_leI (l : List Int) : (Lib.compact l).length ≤ l.length:=by
  unfold Lib.compact Lib.compactUpTo
  rw [List.length_map]
  refine Nat.le_trans (List.length_filter_le _ _) ?_
  simp
theorem srtI_ok : XOk Tryz.prog 68 .srtI:=by
  unfold XOk XK.ext
  simp only [reduceCtorEq,if_false,if_true]
  exact { enter := enters_of Tryz.func68 (by kernel_rfl) rfl
          row:=fun blk off cap zs w hH hb h1 _=>Any.slices_Sort_int Tryz.lays189 blk off cap zs w hH hb (by omega)
          empty:=fun p cap w=>Any.slices_Sort_int_none Tryz.lays189 p cap w
          same:=fun zs=>List.length_mergeSort zs
          le:=fun zs m h=>by simp at h }
theorem cpI_ok : XOk Tryz.prog 69 .cpI:=by
  unfold XOk XK.ext
  simp only [reduceCtorEq,if_false,if_true]
  exact { enter := enters_of Tryz.func69 (by kernel_rfl) rfl
          row:=fun blk off cap zs w hH _ h1 h2=>by
            refine (Any.slices_Compact_int Tryz.lays20 blk off cap zs w hH (by omega) h2).mono ?_
            rintro e w' ⟨h3,q,h4⟩
            refine ⟨h3,q,#[],?_⟩
            rw [h4]
            simp only [cpR,grow]
            rfl
          empty:=fun p cap w=>Any.slices_Compact_int_empty Tryz.lays20 p cap w
          same:=fun zs=>by simp only [cpR,List.length_append,List.length_replicate]; have:=compact_leI zs; omega
          le:=fun zs m h=>by
            have h:=Option.some.inj h
            have:=compact_leI zs
            omega }
theorem cont_ok : XOk Tryz.prog 157 (.cont 0) :=
  ⟨enters_of Tryz.func157 (by kernel_rfl) rfl,fun s t m w h1 h2=>Any.strings_Contains { Tryz.lays144 with } s t m w h1 h2⟩
theorem utf1_at {c : Nat} (h : c < 256) : utf1.getD c 0 = (Lib.firstT c : Int):=by
  simp [utf1,List.getD,h]
theorem utf2_lo {i : Nat} (h : i < 16) : utf2.getD (2 * i) 0 = (Lib.accLo i : Int):=by
  simp [utf2,List.getD,show 2 * i < 32 from by omega]
theorem utf2_hi {i : Nat} (h : i < 16) : utf2.getD (2 * i + 1) 0 = (Lib.accHi i : Int):=by
  have h1 : (2 * i + 1) / 2 = i:=by omega
  have h2 : (2 * i + 1) % 2 = 1:=by omega
  simp [utf2,List.getD,show 2 * i + 1 < 32 from by omega,h1,h2]
theorem vstr_ok : XOk Tryz.prog 154 (.vstr 1 2) :=
  ⟨enters_of Tryz.func154 (by kernel_rfl) rfl,fun s w h1 h3 h4=>Any.utf8_ValidString Tryz.lays196 s w h1 ⟨fun c hc=>(h3 c hc).trans (by rw [utf1_at hc]),fun i hi=>⟨(h4 (2 * i) (by omega)).trans (by rw [utf2_lo hi]),(h4 (2 * i + 1) (by omega)).trans (by rw [utf2_hi hi])⟩⟩⟩
theorem mx_of {W : World} (h : W.ShapedOpen Tryz.prog) : ∃ m,W.cell? ⟨0,0,none⟩ = some (.int .i64 m):=Tryz.lays144.s1_3 W h
theorem u8_extra : U8Extra Tryz.prog Tryz.lays260_ren:=⟨by kernel_rfl,by kernel_rfl,by kernel_rfl,by kernel_rfl,by kernel_rfl,by kernel_rfl,by kernel_rfl⟩
theorem utf_of {W : World} {l : List (String × DataW Unit)} (h : laidMet Tryz.prog l W) (h3 : ("unicode/utf8.first",Lib.firstData) ∈ l) (h4 : ("unicode/utf8.acceptRanges",Lib.acceptData) ∈ l) :
    (∀ i,i < utf1.length → W.cell? ⟨1,i,none⟩ = some (.int .u8 (utf1.getD i 0))) ∧ ∀ i,i < utf2.length → W.cell? ⟨2,i,none⟩ = some (.int .u8 (utf2.getD i 0)):=by
  obtain ⟨q1,q2⟩:=utf8Tabs_of_reads Tryz.lays260 u8_extra (Lib.laidMet.reads h h3) (Lib.laidMet.reads h h4)
  have e1 : utf1.length = 256:=by simp [utf1]
  have e2 : utf2.length = 32:=by simp [utf2]
  refine ⟨fun i hi=>?_,fun i hi=>?_⟩
  · rw [utf1_at (by omega)]
    exact q1 i (by omega)
  · obtain ⟨j,hj | hj⟩ : ∃ j,i = 2 * j ∨ i = 2 * j + 1:=⟨i / 2,by omega⟩
    · subst hj
      rw [utf2_lo (by omega)]
      exact (q2 j (by omega)).1
    · subst hj
      rw [utf2_hi (by omega)]
      exact (q2 j (by omega)).2
end Go.Proofs.YtnpbglnfnhejiaaGreatDoor
