/-
  The small code is what the program says: the check of each function, by the kernel; library functions without a body; the contract's parts.
-/
import Derived.Test.YtameabpbghichaaGreatDoorHM4F
import Derived.Test.YtameabpbghichaaGreatDoorHM4Row
import Derived.Test.YtameabpbghichaaGreatDoorHM4Trim
import Derived.Test.YtameabpbghichaaGreatDoorCards
import Derived.Test.YtameabpbghichaaGreatDoorTie
import Derived.WalkKit
import Derived.ProofKit
import Derived.OpenShut
import Derived.Deep.DeepHandedRow
import Derived.Lib.LaidTab
import Derived.Carry
import Derived.SizedLaws
namespace Go.Proofs.YtameabpbghichaaGreatDoor
open Go Go.Abs Go.ChangeShapes Go.WideShapes Go.ChangeAt Go.RowKit
set_option maxRecDepth 100000
def okAll(P:Program)(F:Nat→Option Abs.Fn)(n:Nat):Bool:=(List.range n).all fun f=>match F f with
  |some fn=>okFn P f fn
  |none=>true
theorem fns_ok:okAll Tryz.prog fns 275=true:=by kernel_rfl
theorem fns_top:∀ f fn,fns f=some fn→f<275:=by
  intro f fn h
  unfold fns at h
  split at h<;>first|omega|simp at h
theorem hF:∀ f fn,fns f=some fn→okFn Tryz.prog f fn=true:=by
  intro f fn h
  have h1:=fns_ok
  unfold okAll at h1
  have:=List.all_eq_true.1 h1 f (by simpa using fns_top f fn h)
  rw[h] at this
  exact this
theorem cells3:Tryz.prog.cellsOf 3=1:=by kernel_rfl
theorem bytes3:Tryz.prog.bytesOf 3=8:=by kernel_rfl
theorem laidOut:laidOutB Tryz.prog=true:=by kernel_rfl
theorem ownK:ownKnob Tryz.prog.godebug=none:=by kernel_rfl
theorem kx_ok:∀ f x,kx f=some x→XOk Tryz.prog f x:=by
  intro f x h
  unfold kx at h
  split at h
  · obtain rfl:=Option.some.inj h
    exact ⟨_,Tryz.func214,by kernel_rfl,by kernel_rfl,by kernel_rfl,by kernel_rfl⟩
  · obtain rfl:=Option.some.inj h
    exact ⟨_,Tryz.func194,by kernel_rfl,by kernel_rfl,by kernel_rfl,by kernel_rfl⟩
  · obtain rfl:=Option.some.inj h
    exact trim_ok
  · obtain rfl:=Option.some.inj h
    exact srtS_ok
  · simp at h
theorem gTab : Tryz.prog.globalNamed "math/bits.deBruijn32tab" = some 1:=by kernel_rfl
theorem gTabType:(Tryz.prog.globals[1]?).map (·.type)=some 292:=by kernel_rfl
theorem cellsTab:Tryz.prog.cellsOf 292=32:=by kernel_rfl
theorem cellsE:Tryz.prog.cellsOf 5=1:=by kernel_rfl
theorem laidTab:(Rows.laid_math_bits_deBruijn32tab:DataW Unit)=Lib.tabData .u8 tab32:=by kernel_rfl
/-- What a row's list gives: the table's cells hold its numbers. -/
theorem tabCells (laid : List (String × DataW Unit)) {rest : List (String × DataW Unit)} (hl : laid = ("math/bits.deBruijn32tab",Rows.laid_math_bits_deBruijn32tab) :: rest) {W : World} (h : laidMet Tryz.prog laid W) :
    ∀ i,i<tab32.length→W.cell? ⟨1,i,none⟩=some (.int .u8 (tab32.getD i 0)):=by
  subst hl
  rw[laidTab] at h
  have ht : Lib.TabIs Tryz.prog W "math/bits.deBruijn32tab" .u8 tab32:=Lib.tabIs_of_head (rest:=rest) gTab gTabType Tryz.underlying292 Tryz.underlying5 cellsE cellsTab h
  exact fun i hi=>ht.cell gTab i hi
/-- A world for the witness: the settled one,the variables holding what their initialisers lay. -/
noncomputable def laidP0:Obj→Obj
  |.cells _ t frozen=>.cells ((tab32.map (Value.int .u8)).toArray) t frozen
  |o=>o
noncomputable def laidP1:Obj→Obj
  |.cells _ t frozen=>.cells (#[Value.int .u8 128,Value.int .u8 191,Value.int .u8 160,Value.int .u8 191,Value.int .u8 128,Value.int .u8 159,Value.int .u8 144,Value.int .u8 191,Value.int .u8 128,Value.int .u8 143,Value.int .u8 0,Value.int .u8 0,Value.int .u8 0,Value.int .u8 0,Value.int .u8 0,Value.int .u8 0,Value.int .u8 0,Value.int .u8 0,Value.int .u8 0,Value.int .u8 0,Value.int .u8 0,Value.int .u8 0,Value.int .u8 0,Value.int .u8 0,Value.int .u8 0,Value.int .u8 0,Value.int .u8 0,Value.int .u8 0,Value.int .u8 0,Value.int .u8 0,Value.int .u8 0,Value.int .u8 0]) t frozen
  |o=>o
noncomputable def laidP2:Obj→Obj
  |.cells _ t frozen=>.cells ((Go.Pinned.utf8FirstZ.map fun (n:Nat)=>Value.int .u8 n).toArray) t frozen
  |o=>o
noncomputable def laidBase(os:Os):World:=World.holding Tryz.prog os ⟨#[],#[],[]⟩
noncomputable def laidWorld(os:Os):World:={laidBase os with heap:=((((laidBase os).heap).modify 1 laidP0).modify 3 laidP1).modify 2 laidP2}
theorem kx_tab:∀ f x,kx f=some x→XTab tabs x:=by
  intro f x h
  unfold kx at h
  split at h<;>first
    |(obtain rfl:=Option.some.inj h;exact trivial)
    |simp at h
end Go.Proofs.YtameabpbghichaaGreatDoor
